/- A part of the proof: contracts of functions. -/
import Derived.Test.YtihgfpggdkhhaaaX
import Derived.Test.YtihgfpggdkhhaaaAbAny

set_option linter.unusedVariables false
set_option linter.unusedSimpArgs false
set_option maxRecDepth 100000
namespace Go.Proofs.Ytihgfpggdkhhaaa
open Go Go.Ab
theorem open_marks (s : State_T) (c q : Int) (nm : List UInt8) : (openF s c q nm).1.2.1.2 = putL s.2.1.2 c (openF s c q nm).2 ∧ (openF s c q nm).2.1 = q ∧ (openF s c q nm).1.2.2 = s.2.2 := by
  unfold openF
  split
  · split
    · exact ⟨rfl, rfl, rfl⟩
    · split <;> exact ⟨rfl, rfl, rfl⟩
  · exact ⟨rfl, rfl, rfl⟩
theorem flush_marks (s : State_T) (c q n : Int) (l : List Write_T) : (flushF s c q n l).1.2.1.2 = putL s.2.1.2 c (flushF s c q n l).2 ∧ (flushF s c q n l).2.1 = q ∧ (flushF s c q n l).1.2.2 = s.2.2 := by
  unfold flushF
  split
  · split <;> exact ⟨rfl, rfl, rfl⟩
  · exact ⟨rfl, rfl, rfl⟩
theorem put_get (l : List Mark_T) (hl : l.length = 3) (c : Int) (m : Mark_T) (k : Nat) (hk : k < 3) : (putL l c m).getD k zM = if (k : Int) + 1 = c ∧ (l.getD k zM).1 < m.1 then m else l.getD k zM := by
  unfold putL
  by_cases hc : (k : Int) + 1 = c
  · subst hc
    have e : ((k : Int) + 1 - 1).toNat = k := by omega
    rw [e]
    have e2 : l.getD k (0, 0, 0, 0) = l.getD k zM := rfl
    rw [e2]
    by_cases hq : (l.getD k zM).1 < m.1
    · rw [if_pos ⟨by omega, by omega, hq⟩, if_pos ⟨rfl, hq⟩]
      simp [List.getD, hl, hk]
    · rw [if_neg (fun hh => hq hh.2.2), if_neg (fun hh => hq hh.2)]
  · rw [if_neg (show ¬ ((k : Int) + 1 = c ∧ (l.getD k zM).1 < m.1) from fun hh => hc hh.1)]
    split
    · rename_i h
      have : (c - 1).toNat ≠ k := by omega
      show ((l.set (c - 1).toNat m)[k]?).getD zM = (l[k]?).getD zM
      rw [List.getElem?_set_ne this]
    · rfl
def smP (s : State_T) (c q : Int) (a : State_T) (m : Mark_T) (b : State_T) (n : Mark_T) : Prop :=
  (s.2.1.2.length = 3 ∧ a.2.1.2.length = 3 ∧ b.2.1.2.length = 3) ∧ ∀ k : Nat, k < 3 →
    a.2.1.2.getD k zM = (if (k : Int) + 1 = c ∧ (s.2.1.2.getD k zM).1 < q then m else s.2.1.2.getD k zM) ∧ b.2.1.2.getD k zM = (if (k : Int) + 1 = c ∧ (s.2.1.2.getD k zM).1 < q then n else s.2.1.2.getD k zM)
def smE (s a b : State_T) : Ex × St := (.exit 0, { fr := [(9, .ptr 144 0 0 0), (13, .ptr 208 0 0 0), (15, .ptr 240 0 0 0)], bs := [(144, boxB (Tu.mk State_tfs s)), (208, boxB (Tu.mk State_tfs a)), (240, boxB (Tu.mk State_tfs b))], df := [] })
theorem sml : (loopsOf 0 (codeOf Try.prog 5)).map (·.1) = [0] := by kernel_rfl
theorem smo : OneLoops Try.prog 5 := by unfold OneLoops; rw [sml]; decide
theorem sma : At 0 (codeOf Try.prog 5) 0 (.loop (bodyAt Try.prog 5 0)) := at_body smo (by rw [sml]; decide)
theorem meq (f : Mark_T) : (!(decide (f.1 = f.1) && (decide (f.2.1 = f.2.1) && (decide (f.2.2.1 = f.2.2.1) && (decide (f.2.2.2 = f.2.2.2) && true))))) = false := by simp
theorem sm_run (s : State_T) (c q : Int) (a : State_T) (m : Mark_T) (b : State_T) (n : Mark_T) (h : smP s c q a m b n) : ∀ (j k : Nat), k + j = 3 → ∀ (w : Nat), j < w → Runs' Try.prog cfg Q4 5 0 w (smH s c q a m b n ((k : Int) + 1)) (smE s a b)
  | 0, k, hi, w + 1, hk => by
    refine Runs'.done (lp := LP0) LPok.none sma ((sm_s_w s c q a m b n _).trans ?_)
    unfold sm_s_r
    rw [bK_neg (decide_eq_false (by omega))]
    rfl
  | j + 1, k, hi, w + 1, hk => by
    have ih := sm_run s c q a m b n h j (k + 1) (by omega) w (by omega)
    refine Runs'.step (lp := LP0) LPok.none sma ((sm_s_w s c q a m b n _).trans ?_) ih
    obtain ⟨⟨l1, l2, l3⟩, hp⟩ := h
    obtain ⟨p1, p2⟩ := hp k (by omega)
    have e1 : IntKind.i64.wrap ((k : Int) + 1 + 1) = ((k + 1 : Nat) : Int) + 1 := by rw [w64 (by omega) (by omega)]; omega
    have e2 : IntKind.i64.wrap ((k : Int) + 1 - 1) = (k : Int) := by rw [w64 (by omega) (by omega)]; omega
    have at_ : ∀ (L : List Mark_T), L.length = 3 → ∀ {Q : Option (St ⊕ (Ex × St)) → Prop} {f : Mark_T → Option (St ⊕ (Ex × St))}, Q (f (L.getD k zM)) → Q (oK (elemAt true Mark_tfs (L.map (mkV true Mark_tfs)) (k : Int)) f) := fun L hL Q f hz => oK_atq (agg := true) (fs := Mark_tfs) (l := L) (n := (k : Int)) zM (by omega) (by rw [Int.toNat_natCast]; omega) (by rw [Int.toNat_natCast]; exact hz)
    unfold sm_s_r
    rw [e1, e2]
    refine bK_tq (Q := fun z => z = _) (decide_eq_true (by omega)) (at_ _ l1 (Q := fun z => z = _) (at_ _ l1 (Q := fun z => z = _) ?_))
    refine bK_iq (Q := fun z => z = _) (fun c1 => ?_) (fun c1 => ?_)
    · refine at_ _ l1 (Q := fun z => z = _) ?_
      refine bK_iq (Q := fun z => z = _) (fun c2 => ?_) (fun c2 => ?_)
      · rw [if_pos ⟨c1, c2⟩] at p1 p2
        refine at_ _ l2 (Q := fun z => z = _) ?_
        rw [p1]
        refine bK_fq (Q := fun z => z = _) (meq _) (at_ _ l3 (Q := fun z => z = _) ?_)
        rw [p2]
        exact bK_fq (Q := fun z => z = _) (meq _) rfl
      · rw [if_neg (fun hh => c2 hh.2)] at p1 p2
        refine at_ _ l2 (Q := fun z => z = _) ?_
        rw [p1]
        refine bK_fq (Q := fun z => z = _) (meq _) (at_ _ l3 (Q := fun z => z = _) ?_)
        rw [p2]
        exact bK_fq (Q := fun z => z = _) (meq _) rfl
    · rw [if_neg (fun hh => c1 hh.1)] at p1 p2
      refine at_ _ l2 (Q := fun z => z = _) ?_
      rw [p1]
      refine bK_fq (Q := fun z => z = _) (meq _) (at_ _ l3 (Q := fun z => z = _) ?_)
      rw [p2]
      exact bK_fq (Q := fun z => z = _) (meq _) rfl
abbrev SmD : Type := State_T × Int × Int × State_T × Mark_T × State_T × Mark_T
def smHd (d : SmD) : St := smH d.1 d.2.1 d.2.2.1 d.2.2.2.1 d.2.2.2.2.1 d.2.2.2.2.2.1 d.2.2.2.2.2.2 1
noncomputable def smL : LP := LP.of smHd (fun d => smP d.1 d.2.1 d.2.2.1 d.2.2.2.1 d.2.2.2.2.1 d.2.2.2.2.2.1 d.2.2.2.2.2.2) fun d => .leaf (smE d.1 d.2.2.2.1 d.2.2.2.2.2.1)
noncomputable def smLP : LPs := LPs.add LP0 5 0 smL
theorem smLP_ok : LPok Try.prog cfg Q4 smLP 5 := LPok.addH LPok.none smo fun d h => sm_run _ _ _ _ _ _ _ h 3 0 (by omega) rounds (by simp only [rounds]; omega)
theorem smHd_inj (d d' : SmD) (h : smHd d = smHd d') : d = d' := by
  obtain ⟨s, c, q, a, m, b, n⟩ := d
  obtain ⟨s', c', q', a', m', b', n'⟩ := d'
  simp only [smHd, smH, boxB, St.mk.injEq, List.cons.injEq, Prod.mk.injEq, AV.int.injEq, Blk.mk.injEq, and_true, true_and] at h
  obtain ⟨⟨h0, h00⟩, h1, h2, h3, h4, h5⟩ := h
  rw [h0, h00, mk_inj (fs := State_tfs) rfl h1, mk_inj (fs := State_tfs) rfl h2, mk_inj (fs := Mark_tfs) rfl h3, mk_inj (fs := State_tfs) rfl h4, mk_inj (fs := Mark_tfs) rfl h5]
abbrev stateMarks_id : Nat := 5
abbrev stateMarks_sh : Shp := [none, none, none, none]
abbrev stateMarks_fs : List Lf := [.fl false [.fi .u8], .fl false [.fi .u8], .fi .u8, .fi .u8]
abbrev stateMarks_rsh : Shp := [none]
abbrev stateMarks_rfs : List Lf := [.fb]
noncomputable def stateMarks_r (picks_x : Bool) (picks : List Int) (more_x : Bool) (more : List Int) (client : Int) (seq : Int) : Option Ret :=
  oK (begunS.dec [] []) fun (d0 : PUnit) =>
  bK (decide (60 < (↑(List.map (mkV false [Lf.fi IntKind.u8]) picks).length : Int))) (some { pan := false, res := AV.bool true, out := [], new := [] })
    (bK (decide (10 < (↑(List.map (mkV false [Lf.fi IntKind.u8]) more).length : Int))) (some { pan := false, res := AV.bool true, out := [], new := [] })
      (oK (statePS.dec [AV.ptr 1000000 0 0 0, AV.int IntKind.i64 25] [{ v := 0, k := BK.box, fz := false, sz := 0, es := [AV.slc picks_x (List.map (mkV false [Lf.fi IntKind.u8]) picks), AV.int IntKind.i64 0] }]) fun (d1 : ((Bool × List Int) × Int) × Int) =>
        oK (nameS.dec [AV.ptr 1000000 0 0 0] [{ v := 0, k := BK.box, fz := false, sz := 0, es := [AV.slc more_x (List.map (mkV false [Lf.fi IntKind.u8]) more), AV.int IntKind.i64 0] }]) fun (d2 : ((Bool × List Int) × Int) × PUnit) =>
          oK (openPS.dec [AV.agg [AV.slc (stR (d1.fst, d1.snd)).snd.fst.fst (List.map (mkV true File_tfs) (stR (d1.fst, d1.snd)).snd.fst.snd), AV.slc (stR (d1.fst, d1.snd)).snd.snd.fst.fst (List.map (mkV true Mark_tfs) (stR (d1.fst, d1.snd)).snd.snd.fst.snd), AV.int IntKind.i64 (stR (d1.fst, d1.snd)).snd.snd.snd], AV.int IntKind.i64 (IntKind.i64.wrap (1 + IntKind.i64.wrap (client.tmod 3))), AV.int IntKind.i64 (IntKind.i64.wrap (1 + IntKind.i64.wrap (seq.tmod 12))), AV.str (nameF d2.fst).snd] []) fun (d3 : (Bool × List (List UInt8 × Int × List UInt8)) × (Bool × List (Int × Int × Int × Int)) × Int × Int × Int × List UInt8) =>
            oK (numS.dec [AV.ptr 1000000 0 0 0, AV.int IntKind.i64 6] [{ v := 0, k := BK.box, fz := false, sz := 0, es := [AV.slc (nameF d2.fst).fst.fst.fst (List.map (mkV false [Lf.fi IntKind.u8]) (nameF d2.fst).fst.fst.snd), AV.int IntKind.i64 (nameF d2.fst).fst.snd] }]) fun (d4 : ((Bool × List Int) × Int) × Int) =>
              oK (writesoS.dec [AV.ptr 1000000 0 0 0, AV.int IntKind.i64 3] [{ v := 0, k := BK.box, fz := false, sz := 0, es := [AV.slc (numF d4.fst d4.snd).fst.fst.fst (List.map (mkV false [Lf.fi IntKind.u8]) (numF d4.fst d4.snd).fst.fst.snd), AV.int IntKind.i64 (numF d4.fst d4.snd).fst.snd] }]) fun (d5 : ((Bool × List Int) × Int) × Int) =>
                bK (List.map (mkV true Write_tfs) (writesQ d5.fst d5.snd).snd.snd).isEmpty
                  (oK (writeS.dec [AV.ptr 1000000 0 0 0] [{ v := 0, k := BK.box, fz := false, sz := 0, es := [AV.slc (writesQ d5.fst d5.snd).fst.fst.fst (List.map (mkV false [Lf.fi IntKind.u8]) (writesQ d5.fst d5.snd).fst.fst.snd), AV.int IntKind.i64 (writesQ d5.fst d5.snd).fst.snd] }]) fun (d6 : ((Bool × List Int) × Int) × PUnit) =>
                    oK (flushPS.dec [AV.agg [AV.slc (stR (d1.fst, d1.snd)).snd.fst.fst (List.map (mkV true File_tfs) (stR (d1.fst, d1.snd)).snd.fst.snd), AV.slc (stR (d1.fst, d1.snd)).snd.snd.fst.fst (List.map (mkV true Mark_tfs) (stR (d1.fst, d1.snd)).snd.snd.fst.snd), AV.int IntKind.i64 (stR (d1.fst, d1.snd)).snd.snd.snd], AV.int IntKind.i64 (IntKind.i64.wrap (1 + IntKind.i64.wrap (client.tmod 3))), AV.int IntKind.i64 (IntKind.i64.wrap (1 + IntKind.i64.wrap (seq.tmod 12))), AV.int IntKind.i64 (IntKind.i64.wrap (1 + (numF d4.fst d4.snd).snd)), AV.slc false [AV.agg [AV.int IntKind.i64 (writeF d6.fst).snd.fst, AV.str (writeF d6.fst).snd.snd]]] []) fun (d7 : (Bool × List (List UInt8 × Int × List UInt8)) × (Bool × List (Int × Int × Int × Int)) × Int × Int × Int × Int × Bool × List (Int × List UInt8)) =>
                      bK (!decide ((↑(List.map (mkV true Mark_tfs) (sOut (openQ (oS d3) d3.snd.snd.snd.fst d3.snd.snd.snd.snd.fst d3.snd.snd.snd.snd.snd)).snd.fst.snd).length : Int) = 3)) (some { pan := false, res := AV.bool false, out := [], new := [] })
                        (bK (!decide ((↑(List.map (mkV true Mark_tfs) (sOut (flushQ (fS d7) d7.snd.snd.snd.fst d7.snd.snd.snd.snd.fst d7.snd.snd.snd.snd.snd.fst d7.snd.snd.snd.snd.snd.snd.snd)).snd.fst.snd).length : Int) = 3)) (some { pan := false, res := AV.bool false, out := [], new := [] })
                          (bK (!decide ((sOut (openQ (oS d3) d3.snd.snd.snd.fst d3.snd.snd.snd.snd.fst d3.snd.snd.snd.snd.snd)).snd.snd.snd.fst = IntKind.i64.wrap (1 + IntKind.i64.wrap (seq.tmod 12)))) (some { pan := false, res := AV.bool false, out := [], new := [] })
                            (bK (!decide ((sOut (flushQ (fS d7) d7.snd.snd.snd.fst d7.snd.snd.snd.snd.fst d7.snd.snd.snd.snd.snd.fst d7.snd.snd.snd.snd.snd.snd.snd)).snd.snd.snd.fst = IntKind.i64.wrap (1 + IntKind.i64.wrap (seq.tmod 12)))) (some { pan := false, res := AV.bool false, out := [], new := [] })
                              (oK
                                (smL.dec
                                  { fr := [(9, AV.ptr 144 0 0 0), (10, AV.int IntKind.i64 (IntKind.i64.wrap (1 + IntKind.i64.wrap (client.tmod 3)))), (11, AV.int IntKind.i64 (IntKind.i64.wrap (1 + IntKind.i64.wrap (seq.tmod 12)))), (13, AV.ptr 208 0 0 0), (14, AV.ptr 224 0 0 0), (15, AV.ptr 240 0 0 0), (16, AV.ptr 256 0 0 0), (17, AV.int IntKind.i64 1)],
                                    bs :=
                                      [(144, { v := 0, k := BK.box, fz := false, sz := 0, es := [AV.slc (stR (d1.fst, d1.snd)).snd.fst.fst (List.map (mkV true File_tfs) (stR (d1.fst, d1.snd)).snd.fst.snd), AV.slc (stR (d1.fst, d1.snd)).snd.snd.fst.fst (List.map (mkV true Mark_tfs) (stR (d1.fst, d1.snd)).snd.snd.fst.snd), AV.int IntKind.i64 (stR (d1.fst, d1.snd)).snd.snd.snd] }), (208, { v := 0, k := BK.box, fz := false, sz := 0, es := [AV.slc (sOut (openQ (oS d3) d3.snd.snd.snd.fst d3.snd.snd.snd.snd.fst d3.snd.snd.snd.snd.snd)).fst.fst (List.map (mkV true File_tfs) (sOut (openQ (oS d3) d3.snd.snd.snd.fst d3.snd.snd.snd.snd.fst d3.snd.snd.snd.snd.snd)).fst.snd), AV.slc (sOut (openQ (oS d3) d3.snd.snd.snd.fst d3.snd.snd.snd.snd.fst d3.snd.snd.snd.snd.snd)).snd.fst.fst (List.map (mkV true Mark_tfs) (sOut (openQ (oS d3) d3.snd.snd.snd.fst d3.snd.snd.snd.snd.fst d3.snd.snd.snd.snd.snd)).snd.fst.snd), AV.int IntKind.i64 (sOut (openQ (oS d3) d3.snd.snd.snd.fst d3.snd.snd.snd.snd.fst d3.snd.snd.snd.snd.snd)).snd.snd.fst] }),
                                        (224, { v := 0, k := BK.box, fz := false, sz := 0, es := [AV.int IntKind.i64 (sOut (openQ (oS d3) d3.snd.snd.snd.fst d3.snd.snd.snd.snd.fst d3.snd.snd.snd.snd.snd)).snd.snd.snd.fst, AV.int IntKind.i64 (sOut (openQ (oS d3) d3.snd.snd.snd.fst d3.snd.snd.snd.snd.fst d3.snd.snd.snd.snd.snd)).snd.snd.snd.snd.fst, AV.int IntKind.i64 (sOut (openQ (oS d3) d3.snd.snd.snd.fst d3.snd.snd.snd.snd.fst d3.snd.snd.snd.snd.snd)).snd.snd.snd.snd.snd.fst, AV.int IntKind.i64 (sOut (openQ (oS d3) d3.snd.snd.snd.fst d3.snd.snd.snd.snd.fst d3.snd.snd.snd.snd.snd)).snd.snd.snd.snd.snd.snd] }), (240, { v := 0, k := BK.box, fz := false, sz := 0, es := [AV.slc (sOut (flushQ (fS d7) d7.snd.snd.snd.fst d7.snd.snd.snd.snd.fst d7.snd.snd.snd.snd.snd.fst d7.snd.snd.snd.snd.snd.snd.snd)).fst.fst (List.map (mkV true File_tfs) (sOut (flushQ (fS d7) d7.snd.snd.snd.fst d7.snd.snd.snd.snd.fst d7.snd.snd.snd.snd.snd.fst d7.snd.snd.snd.snd.snd.snd.snd)).fst.snd), AV.slc (sOut (flushQ (fS d7) d7.snd.snd.snd.fst d7.snd.snd.snd.snd.fst d7.snd.snd.snd.snd.snd.fst d7.snd.snd.snd.snd.snd.snd.snd)).snd.fst.fst (List.map (mkV true Mark_tfs) (sOut (flushQ (fS d7) d7.snd.snd.snd.fst d7.snd.snd.snd.snd.fst d7.snd.snd.snd.snd.snd.fst d7.snd.snd.snd.snd.snd.snd.snd)).snd.fst.snd), AV.int IntKind.i64 (sOut (flushQ (fS d7) d7.snd.snd.snd.fst d7.snd.snd.snd.snd.fst d7.snd.snd.snd.snd.snd.fst d7.snd.snd.snd.snd.snd.snd.snd)).snd.snd.fst] }),
                                        (256, { v := 0, k := BK.box, fz := false, sz := 0, es := [AV.int IntKind.i64 (sOut (flushQ (fS d7) d7.snd.snd.snd.fst d7.snd.snd.snd.snd.fst d7.snd.snd.snd.snd.snd.fst d7.snd.snd.snd.snd.snd.snd.snd)).snd.snd.snd.fst, AV.int IntKind.i64 (sOut (flushQ (fS d7) d7.snd.snd.snd.fst d7.snd.snd.snd.snd.fst d7.snd.snd.snd.snd.snd.fst d7.snd.snd.snd.snd.snd.snd.snd)).snd.snd.snd.snd.fst, AV.int IntKind.i64 (sOut (flushQ (fS d7) d7.snd.snd.snd.fst d7.snd.snd.snd.snd.fst d7.snd.snd.snd.snd.snd.fst d7.snd.snd.snd.snd.snd.snd.snd)).snd.snd.snd.snd.snd.fst, AV.int IntKind.i64 (sOut (flushQ (fS d7) d7.snd.snd.snd.fst d7.snd.snd.snd.snd.fst d7.snd.snd.snd.snd.snd.fst d7.snd.snd.snd.snd.snd.snd.snd)).snd.snd.snd.snd.snd.snd] })],
                                    df := [] })
                                fun (d8 : ((Bool × List (List UInt8 × Int × List UInt8)) × (Bool × List (Int × Int × Int × Int)) × Int) × Int × Int × ((Bool × List (List UInt8 × Int × List UInt8)) × (Bool × List (Int × Int × Int × Int)) × Int) × (Int × Int × Int × Int) × ((Bool × List (List UInt8 × Int × List UInt8)) × (Bool × List (Int × Int × Int × Int)) × Int) × Int × Int × Int × Int) => bK (decide (d8.snd.snd.snd.fst.snd.snd = d8.fst.snd.snd)) (some { pan := false, res := AV.bool (decide (d8.snd.snd.snd.snd.snd.fst.snd.snd = d8.fst.snd.snd)), out := [], new := [] }) (some { pan := false, res := AV.bool false, out := [], new := [] }))))))
                  (oK (writeS.dec [AV.ptr 1000000 0 0 0] [{ v := 0, k := BK.box, fz := false, sz := 0, es := [AV.slc (writesQ d5.fst d5.snd).fst.fst.fst (List.map (mkV false [Lf.fi IntKind.u8]) (writesQ d5.fst d5.snd).fst.fst.snd), AV.int IntKind.i64 (writesQ d5.fst d5.snd).fst.snd] }]) fun (d9 : ((Bool × List Int) × Int) × PUnit) =>
                    bK (decide (0 + (List.map (mkV true Write_tfs) (writesQ d5.fst d5.snd).snd.snd).length ≤ (List.map (mkV true Write_tfs) (writesQ d5.fst d5.snd).snd.snd).length))
                      (bK (decide (0 = 0 ∧ (List.map (mkV true Write_tfs) (writesQ d5.fst d5.snd).snd.snd).length = (List.map (mkV true Write_tfs) (writesQ d5.fst d5.snd).snd.snd).length) && bytesFit Try.prog 26 ((List.map (mkV true Write_tfs) (writesQ d5.fst d5.snd).snd.snd).length + 1))
                        (bK (decide (0 + ((List.map (mkV true Write_tfs) (writesQ d5.fst d5.snd).snd.snd).length + 1) ≤ (List.take (List.map (mkV true Write_tfs) (writesQ d5.fst d5.snd).snd.snd).length (List.map (mkV true Write_tfs) (writesQ d5.fst d5.snd).snd.snd) ++ [AV.agg [AV.int IntKind.i64 (writeF d9.fst).snd.fst, AV.str (writeF d9.fst).snd.snd]]).length))
                          (oK (flushPS.dec [AV.agg [AV.slc (stR (d1.fst, d1.snd)).snd.fst.fst (List.map (mkV true File_tfs) (stR (d1.fst, d1.snd)).snd.fst.snd), AV.slc (stR (d1.fst, d1.snd)).snd.snd.fst.fst (List.map (mkV true Mark_tfs) (stR (d1.fst, d1.snd)).snd.snd.fst.snd), AV.int IntKind.i64 (stR (d1.fst, d1.snd)).snd.snd.snd], AV.int IntKind.i64 (IntKind.i64.wrap (1 + IntKind.i64.wrap (client.tmod 3))), AV.int IntKind.i64 (IntKind.i64.wrap (1 + IntKind.i64.wrap (seq.tmod 12))), AV.int IntKind.i64 (IntKind.i64.wrap (1 + (numF d4.fst d4.snd).snd)), AV.slc false (List.take ((List.map (mkV true Write_tfs) (writesQ d5.fst d5.snd).snd.snd).length + 1) (List.drop 0 (List.take (List.map (mkV true Write_tfs) (writesQ d5.fst d5.snd).snd.snd).length (List.map (mkV true Write_tfs) (writesQ d5.fst d5.snd).snd.snd) ++ [AV.agg [AV.int IntKind.i64 (writeF d9.fst).snd.fst, AV.str (writeF d9.fst).snd.snd]])))] []) fun (d10 : (Bool × List (List UInt8 × Int × List UInt8)) × (Bool × List (Int × Int × Int × Int)) × Int × Int × Int × Int × Bool × List (Int × List UInt8)) =>
                            bK (decide (0 + ((List.map (mkV true Write_tfs) (writesQ d5.fst d5.snd).snd.snd).length + 1) ≤ (List.take (List.map (mkV true Write_tfs) (writesQ d5.fst d5.snd).snd.snd).length (List.map (mkV true Write_tfs) (writesQ d5.fst d5.snd).snd.snd) ++ [AV.agg [AV.int IntKind.i64 (writeF d9.fst).snd.fst, AV.str (writeF d9.fst).snd.snd]]).length))
                              (bK (!decide ((↑(List.map (mkV true Mark_tfs) (sOut (openQ (oS d3) d3.snd.snd.snd.fst d3.snd.snd.snd.snd.fst d3.snd.snd.snd.snd.snd)).snd.fst.snd).length : Int) = 3)) (some { pan := false, res := AV.bool false, out := [], new := [] })
                                (bK (!decide ((↑(List.map (mkV true Mark_tfs) (sOut (flushQ (fS d10) d10.snd.snd.snd.fst d10.snd.snd.snd.snd.fst d10.snd.snd.snd.snd.snd.fst d10.snd.snd.snd.snd.snd.snd.snd)).snd.fst.snd).length : Int) = 3)) (some { pan := false, res := AV.bool false, out := [], new := [] })
                                  (bK (!decide ((sOut (openQ (oS d3) d3.snd.snd.snd.fst d3.snd.snd.snd.snd.fst d3.snd.snd.snd.snd.snd)).snd.snd.snd.fst = IntKind.i64.wrap (1 + IntKind.i64.wrap (seq.tmod 12)))) (some { pan := false, res := AV.bool false, out := [], new := [] })
                                    (bK (!decide ((sOut (flushQ (fS d10) d10.snd.snd.snd.fst d10.snd.snd.snd.snd.fst d10.snd.snd.snd.snd.snd.fst d10.snd.snd.snd.snd.snd.snd.snd)).snd.snd.snd.fst = IntKind.i64.wrap (1 + IntKind.i64.wrap (seq.tmod 12)))) (some { pan := false, res := AV.bool false, out := [], new := [] })
                                      (oK
                                        (smL.dec
                                          { fr := [(9, AV.ptr 144 0 0 0), (10, AV.int IntKind.i64 (IntKind.i64.wrap (1 + IntKind.i64.wrap (client.tmod 3)))), (11, AV.int IntKind.i64 (IntKind.i64.wrap (1 + IntKind.i64.wrap (seq.tmod 12)))), (13, AV.ptr 208 0 0 0), (14, AV.ptr 224 0 0 0), (15, AV.ptr 240 0 0 0), (16, AV.ptr 256 0 0 0), (17, AV.int IntKind.i64 1)],
                                            bs :=
                                              [(144, { v := 0, k := BK.box, fz := false, sz := 0, es := [AV.slc (stR (d1.fst, d1.snd)).snd.fst.fst (List.map (mkV true File_tfs) (stR (d1.fst, d1.snd)).snd.fst.snd), AV.slc (stR (d1.fst, d1.snd)).snd.snd.fst.fst (List.map (mkV true Mark_tfs) (stR (d1.fst, d1.snd)).snd.snd.fst.snd), AV.int IntKind.i64 (stR (d1.fst, d1.snd)).snd.snd.snd] }), (208, { v := 0, k := BK.box, fz := false, sz := 0, es := [AV.slc (sOut (openQ (oS d3) d3.snd.snd.snd.fst d3.snd.snd.snd.snd.fst d3.snd.snd.snd.snd.snd)).fst.fst (List.map (mkV true File_tfs) (sOut (openQ (oS d3) d3.snd.snd.snd.fst d3.snd.snd.snd.snd.fst d3.snd.snd.snd.snd.snd)).fst.snd), AV.slc (sOut (openQ (oS d3) d3.snd.snd.snd.fst d3.snd.snd.snd.snd.fst d3.snd.snd.snd.snd.snd)).snd.fst.fst (List.map (mkV true Mark_tfs) (sOut (openQ (oS d3) d3.snd.snd.snd.fst d3.snd.snd.snd.snd.fst d3.snd.snd.snd.snd.snd)).snd.fst.snd), AV.int IntKind.i64 (sOut (openQ (oS d3) d3.snd.snd.snd.fst d3.snd.snd.snd.snd.fst d3.snd.snd.snd.snd.snd)).snd.snd.fst] }),
                                                (224, { v := 0, k := BK.box, fz := false, sz := 0, es := [AV.int IntKind.i64 (sOut (openQ (oS d3) d3.snd.snd.snd.fst d3.snd.snd.snd.snd.fst d3.snd.snd.snd.snd.snd)).snd.snd.snd.fst, AV.int IntKind.i64 (sOut (openQ (oS d3) d3.snd.snd.snd.fst d3.snd.snd.snd.snd.fst d3.snd.snd.snd.snd.snd)).snd.snd.snd.snd.fst, AV.int IntKind.i64 (sOut (openQ (oS d3) d3.snd.snd.snd.fst d3.snd.snd.snd.snd.fst d3.snd.snd.snd.snd.snd)).snd.snd.snd.snd.snd.fst, AV.int IntKind.i64 (sOut (openQ (oS d3) d3.snd.snd.snd.fst d3.snd.snd.snd.snd.fst d3.snd.snd.snd.snd.snd)).snd.snd.snd.snd.snd.snd] }), (240, { v := 0, k := BK.box, fz := false, sz := 0, es := [AV.slc (sOut (flushQ (fS d10) d10.snd.snd.snd.fst d10.snd.snd.snd.snd.fst d10.snd.snd.snd.snd.snd.fst d10.snd.snd.snd.snd.snd.snd.snd)).fst.fst (List.map (mkV true File_tfs) (sOut (flushQ (fS d10) d10.snd.snd.snd.fst d10.snd.snd.snd.snd.fst d10.snd.snd.snd.snd.snd.fst d10.snd.snd.snd.snd.snd.snd.snd)).fst.snd), AV.slc (sOut (flushQ (fS d10) d10.snd.snd.snd.fst d10.snd.snd.snd.snd.fst d10.snd.snd.snd.snd.snd.fst d10.snd.snd.snd.snd.snd.snd.snd)).snd.fst.fst (List.map (mkV true Mark_tfs) (sOut (flushQ (fS d10) d10.snd.snd.snd.fst d10.snd.snd.snd.snd.fst d10.snd.snd.snd.snd.snd.fst d10.snd.snd.snd.snd.snd.snd.snd)).snd.fst.snd), AV.int IntKind.i64 (sOut (flushQ (fS d10) d10.snd.snd.snd.fst d10.snd.snd.snd.snd.fst d10.snd.snd.snd.snd.snd.fst d10.snd.snd.snd.snd.snd.snd.snd)).snd.snd.fst] }),
                                                (256, { v := 0, k := BK.box, fz := false, sz := 0, es := [AV.int IntKind.i64 (sOut (flushQ (fS d10) d10.snd.snd.snd.fst d10.snd.snd.snd.snd.fst d10.snd.snd.snd.snd.snd.fst d10.snd.snd.snd.snd.snd.snd.snd)).snd.snd.snd.fst, AV.int IntKind.i64 (sOut (flushQ (fS d10) d10.snd.snd.snd.fst d10.snd.snd.snd.snd.fst d10.snd.snd.snd.snd.snd.fst d10.snd.snd.snd.snd.snd.snd.snd)).snd.snd.snd.snd.fst, AV.int IntKind.i64 (sOut (flushQ (fS d10) d10.snd.snd.snd.fst d10.snd.snd.snd.snd.fst d10.snd.snd.snd.snd.snd.fst d10.snd.snd.snd.snd.snd.snd.snd)).snd.snd.snd.snd.snd.fst, AV.int IntKind.i64 (sOut (flushQ (fS d10) d10.snd.snd.snd.fst d10.snd.snd.snd.snd.fst d10.snd.snd.snd.snd.snd.fst d10.snd.snd.snd.snd.snd.snd.snd)).snd.snd.snd.snd.snd.snd] })],
                                            df := [] })
                                        fun (d11 : ((Bool × List (List UInt8 × Int × List UInt8)) × (Bool × List (Int × Int × Int × Int)) × Int) × Int × Int × ((Bool × List (List UInt8 × Int × List UInt8)) × (Bool × List (Int × Int × Int × Int)) × Int) × (Int × Int × Int × Int) × ((Bool × List (List UInt8 × Int × List UInt8)) × (Bool × List (Int × Int × Int × Int)) × Int) × Int × Int × Int × Int) => bK (decide (d11.snd.snd.snd.fst.snd.snd = d11.fst.snd.snd)) (some { pan := false, res := AV.bool (decide (d11.snd.snd.snd.snd.snd.fst.snd.snd = d11.fst.snd.snd)), out := [], new := [] }) (some { pan := false, res := AV.bool false, out := [], new := [] }))))))
                              none)
                          none)
                        none)
                      none)))
theorem stateMarks_w (picks_x : Bool) (picks : List Int) (more_x : Bool) (more : List Int) (client : Int) (seq : Int) : unitQ Try.prog cfg Q4 smLP true 5 (groupA stateMarks_sh (Tu.mk stateMarks_fs ((picks_x, picks), (more_x, more), client, seq))) [] = stateMarks_r picks_x picks more_x more client seq := by kernel_rfl

theorem sm_all {s : State_T} (h : StInv 30 s) (c q n : Int) (W : List Write_T) (nm : List UInt8) : smP s c q (openF s c q nm).1 (openF s c q nm).2 (flushF s c q n W).1 (flushF s c q n W).2 := by
  have hl := h.2.1.1
  obtain ⟨a1, a2, _⟩ := open_marks s c q nm
  obtain ⟨b1, b2, _⟩ := flush_marks s c q n W
  refine ⟨⟨hl, by rw [a1, putL_len]; exact hl, by rw [b1, putL_len]; exact hl⟩, fun k hk => ⟨?_, ?_⟩⟩
  · rw [a1, put_get _ hl _ _ _ hk, a2]
  · rw [b1, put_get _ hl _ _ _ hk, b2]
set_option maxHeartbeats 2000000 in
theorem stateMarks_yes (picks_x : Bool) (picks : List Int) (more_x : Bool) (more : List Int) (client : Int) (seq : Int) (h : Tu.wf stateMarks_fs ((picks_x, picks), (more_x, more), client, seq)) : Yes (stateMarks_r picks_x picks more_x more client seq) := by
  unfold stateMarks_r
  refine oK_fsq begunS () trivial ?_
  refine bK_iq (fun _ => yes_leaf) (fun h1 => bK_iq (fun _ => yes_leaf) (fun h2 => ?_))
  rw [List.length_map] at h1 h2
  obtain ⟨⟨_, w1⟩, ⟨_, w2⟩, _⟩ := h
  have hp1 : pkOk ((picks_x, picks), 0) := picks_ok (by omega) w1
  have hp2 : pkOk ((more_x, more), 0) := picks_ok (by omega) w2
  have hsp : stP (((picks_x, picks), 0), 25) := ⟨hp1, by show (0 : Int) ≤ 25; decide, by show (25 : Int) ≤ 30; decide⟩
  refine oK_msq statePS ((picks_x, picks), (0 : Int)) (25 : Int) hsp ?_
  have hst := (stR_spec _ hsp).1.2
  dsimp only
  generalize stR (((picks_x, picks), 0), 25) = z at hst ⊢
  obtain ⟨zb, s⟩ := z
  dsimp only at hst ⊢
  generalize IntKind.i64.wrap (1 + IntKind.i64.wrap (client.tmod 3)) = c
  generalize IntKind.i64.wrap (1 + IntKind.i64.wrap (seq.tmod 12)) = q
  have hsP := sokP_of hst
  have hbody : ∀ f ∈ s.1.2, f.2.2.length ≤ 24 := fun f hf => fileOk_body (hst.1.2.1 f hf)
  refine oK_msq nameS ((more_x, more), (0 : Int)) () hp2 ?_
  have pB0 : pkOk (nameF ((more_x, more), 0)).1 := nameF_ok hp2
  have hnm := nameF_len ((more_x, more), 0)
  dsimp only
  generalize nameF ((more_x, more), 0) = y0 at pB0 hnm ⊢
  obtain ⟨B0, nm⟩ := y0
  dsimp only at pB0 hnm ⊢
  refine oK_fsq openPS (s.1, s.2.1, s.2.2, c, q, nm) ⟨hsP, by show nm.length ≤ 1000; omega⟩ ?_
  refine oK_msq numS B0 (6 : Int) pB0 ?_
  have pB1 : pkOk (numF B0 6).1 := numF_ok pB0
  dsimp only
  generalize numF B0 6 = y1 at pB1 ⊢
  obtain ⟨B1, n1⟩ := y1
  dsimp only at pB1 ⊢
  generalize IntKind.i64.wrap (1 + n1) = n
  refine oK_msq writesoS B1 (3 : Int) ⟨pB1, by decide, by decide⟩ ?_
  have pB : pkOk (writesF B1 3).1 := writesF_ok pB1
  have lW := writesF_len (most := 3) pB1 (by decide)
  have e1 : (writesQ B1 3).1 = (writesF B1 3).1 := rfl
  have e2 : (writesQ B1 3).2.2 = (writesF B1 3).2.2 := rfl
  dsimp only
  rw [e1, e2]
  generalize (writesF B1 3).1 = B2 at pB ⊢
  generalize (writesF B1 3).2.2 = W1 at lW ⊢
  have fin : ∀ (W : List Write_T), Yes
      (bK (!decide ((((openF s c q nm).1.2.1.2.map (mkV true Mark_tfs)).length : Int) = 3)) (some { pan := false, res := .bool false, out := [], new := [] })
        (bK (!decide ((((flushF s c q n W).1.2.1.2.map (mkV true Mark_tfs)).length : Int) = 3)) (some { pan := false, res := .bool false, out := [], new := [] })
          (bK (!decide ((openF s c q nm).2.1 = q)) (some { pan := false, res := .bool false, out := [], new := [] })
            (bK (!decide ((flushF s c q n W).2.1 = q)) (some { pan := false, res := .bool false, out := [], new := [] })
              (oK (smL.dec (smHd (s, c, q, (openF s c q nm).1, (openF s c q nm).2, (flushF s c q n W).1, (flushF s c q n W).2))) fun (d8 : SmD) =>
                bK (decide (d8.2.2.2.1.2.2 = d8.1.2.2)) (some { pan := false, res := .bool (decide (d8.2.2.2.2.2.1.2.2 = d8.1.2.2)), out := [], new := [] }) (some { pan := false, res := .bool false, out := [], new := [] })))))) := by
    intro W
    have ha := sm_all hst c q n W nm
    obtain ⟨l1, l2, l3⟩ := ha.1
    obtain ⟨_, a2, a3⟩ := open_marks s c q nm
    obtain ⟨_, b2, b3⟩ := flush_marks s c q n W
    refine bK_fq (by rw [List.length_map, l2]; rfl) (bK_fq (by rw [List.length_map, l3]; rfl) (bK_fq (by rw [a2]; simp) (bK_fq (by rw [b2]; simp) ?_)))
    refine oK_lpq smHd_inj (s, c, q, (openF s c q nm).1, (openF s c q nm).2, (flushF s c q n W).1, (flushF s c q n W).2) ha ?_
    dsimp only
    rw [a3, b3]
    exact bK_tq (decide_eq_true rfl) (yes_of (decide_eq_true rfl))
  refine bK_bq (fun _ => ?_) (fun hne => ?_)
  · refine oK_msq writeS B2 () pB ?_
    refine oK_fsq flushPS (s.1, s.2.1, s.2.2, c, q, n, (false, [(writeF B2).2])) ⟨⟨hsP, hbody⟩, by show 1 ≤ 1000; decide⟩ ?_
    exact fin [(writeF B2).2]
  · refine oK_msq writeS B2 () pB ?_
    have eW : List.take ((W1.map (mkV true Write_tfs)).length + 1) (List.drop 0 (List.take (W1.map (mkV true Write_tfs)).length (W1.map (mkV true Write_tfs)) ++ [.agg [.int .i64 (writeF B2).2.1, .str (writeF B2).2.2]])) = (W1 ++ [(writeF B2).2]).map (mkV true Write_tfs) := by
      rw [app_end _ _ _ (Nat.le_refl _), List.take_length, List.map_append]
      rfl
    dsimp only
    rw [eW]
    refine bK_tq (by simp) (bK_tq (by simp only [true_and, decide_true, Bool.true_and, List.length_map]; exact fitW (by omega)) (bK_tq (by simp) ?_))
    refine oK_fsq flushPS (s.1, s.2.1, s.2.2, c, q, n, (false, W1 ++ [(writeF B2).2])) ⟨⟨hsP, hbody⟩, by show (W1 ++ [(writeF B2).2]).length ≤ 1000; simp; omega⟩ ?_
    refine bK_tq (by simp) ?_
    exact fin (W1 ++ [(writeF B2).2])

end Go.Proofs.Ytihgfpggdkhhaaa
