/- A part of the proof: contracts of functions. -/
import Derived.Test.YtihgfpggdkhhaaaQ
import Derived.Test.YtihgfpggdkhhaaaAbAny

set_option linter.unusedVariables false
set_option linter.unusedSimpArgs false
set_option maxRecDepth 100000
namespace Go.Proofs.Ytihgfpggdkhhaaa
open Go Go.Ab
theorem flush_files (s : State_T) (c q n : Int) (l : List Write_T) : (flushF s c q n l).1.1.2 = s.1.2 ∨ (isF s.1.2 n = true ∧ ∃ f : File_T, f.1 = (s.1.2.getD (n - 1).toNat zF).1 ∧ (flushF s c q n l).1.1.2 = s.1.2.set (n - 1).toNat f) := by
  unfold flushF
  split
  · rename_i hn
    have h1 := (isF_in _ _ hn).1
    split
    · refine .inr ⟨hn, ((s.1.2.getD (n - 1).toNat zF).1, verN (s.1.2.getD (n - 1).toNat zF).2.1, allF (s.1.2.getD (n - 1).toNat zF).2.2 l), rfl, ?_⟩
      simp only [markF, setF]
      rw [if_pos (by omega)]
    · exact .inl rfl
  · exact .inl rfl
theorem gone_files (s : State_T) (c q n : Int) : (goneF s c q n).1.1.2 = if isF s.1.2 n = true then s.1.2.set (n - 1).toNat zF else s.1.2 := by
  unfold goneF
  split
  · rename_i hn
    have h1 := (isF_in _ _ hn).1
    simp only [markF, setF]
    rw [if_pos (by omega)]
  · rfl
theorem room_empty {l : List File_T} (h : (roomF l).2 = true) : (l.getD ((roomF l).1 - 1).toNat zF).1 = [] := by
  have hin := roomF_in l h
  unfold roomF at h hin ⊢
  split
  · rename_i hb
    rw [if_pos hb] at h
    cases h
  · rename_i hb
    have hp : posF [] l = posN [] l 0 := rfl
    rw [if_neg hb] at hin
    simp only at hin ⊢
    have hne : posN [] l 0 ≠ 0 := by rw [← hp]; omega
    have := posN_at (nm := []) (l := l) (i := 0) hne
    rw [hp, show ((posN [] l 0 : Int) - 1).toNat = posN [] l 0 - 0 - 1 by omega]
    exact this
theorem open_files (s : State_T) (c q : Int) (nm : List UInt8) : (openF s c q nm).1.1.2 = s.1.2 ∨ ((1 ≤ (openF s c q nm).2.2.2.1 ∧ (openF s c q nm).2.2.2.1 ≤ (s.1.2.length : Int)) ∧ (s.1.2.getD ((openF s c q nm).2.2.2.1 - 1).toNat zF).1 = [] ∧ ∃ f : File_T, (openF s c q nm).1.1.2 = s.1.2.set ((openF s c q nm).2.2.2.1 - 1).toNat f) := by
  unfold openF
  split
  · split
    · exact .inl rfl
    · split
      · rename_i hr
        have hin := roomF_in _ hr
        refine .inr ⟨hin, room_empty hr, (nm, 1, []), ?_⟩
        simp only [markF, setF]
        rw [if_pos (by omega)]
      · exact .inl rfl
  · exact .inl rfl
/-- What a deed on a file leaves. -/
def apP (s : State_T) (n : Int) (a b c : State_T) (m : Mark_T) : Prop :=
  (s.1.2.length = 6 ∧ a.1.2.length = 6 ∧ b.1.2.length = 6 ∧ c.1.2.length = 6) ∧ ∀ i : Nat, i < 6 →
    ((i : Int) ≠ IntKind.i64.wrap (n - 1) → a.1.2.getD i zF = s.1.2.getD i zF ∧ b.1.2.getD i zF = s.1.2.getD i zF) ∧
    ((i : Int) ≠ IntKind.i64.wrap (m.2.2.1 - 1) → c.1.2.getD i zF = s.1.2.getD i zF) ∧ ((s.1.2.getD i zF).1 ≠ [] → c.1.2.getD i zF = s.1.2.getD i zF)
def apE (s : State_T) (n : Int) (a b : State_T) : Ex × St := (.exit 0, { fr := [(7, .ptr 112 0 0 0), (9, .int .i64 n), (10, .ptr 160 0 0 0), (12, .ptr 192 0 0 0)], bs := [(112, boxB (Tu.mk State_tfs s)), (160, boxB (Tu.mk State_tfs a)), (192, boxB (Tu.mk State_tfs b))], df := [] })
theorem apl : (loopsOf 0 (codeOf Try.prog 7)).map (·.1) = [0] := by kernel_rfl
theorem apo : OneLoops Try.prog 7 := by unfold OneLoops; rw [apl]; decide
theorem apa : At 0 (codeOf Try.prog 7) 0 (.loop (bodyAt Try.prog 7 0)) := at_body apo (by rw [apl]; decide)
theorem feq (f : File_T) : (!(decide (f.1 = f.1) && (decide (f.2.1 = f.2.1) && (decide (f.2.2 = f.2.2) && true)))) = false := by simp
theorem ap_run (s : State_T) (n : Int) (a b c : State_T) (m : Mark_T) (h : apP s n a b c m) : ∀ (j i : Nat), i + j = 6 → ∀ (k : Nat), j < k → Runs' Try.prog cfg Q4 7 0 k (apH s n a b c m i) (apE s n a b)
  | 0, i, hi, k + 1, hk => by
    refine Runs'.done (lp := LP0) LPok.none apa ((ap_s_w s n a b c m i).trans ?_)
    unfold ap_s_r
    rw [bK_neg (decide_eq_false (by omega))]
    rfl
  | j + 1, i, hi, k + 1, hk => by
    refine Runs'.step (lp := LP0) LPok.none apa ((ap_s_w s n a b c m i).trans ?_) (ap_run s n a b c m h j (i + 1) (by omega) k (by omega))
    obtain ⟨⟨l1, l2, l3, l4⟩, hp⟩ := h
    obtain ⟨p1, p2, p3⟩ := hp i (by omega)
    have e1 : IntKind.i64.wrap ((i : Int) + 1) = ((i + 1 : Nat) : Int) := by rw [w64 (by omega) (by omega)]; omega
    have at_ : ∀ (L : List File_T), L.length = 6 → ∀ {Q : Option (St ⊕ (Ex × St)) → Prop} {f : File_T → Option (St ⊕ (Ex × St))}, Q (f (L.getD i zF)) → Q (oK (elemAt true File_tfs (L.map (mkV true File_tfs)) (i : Int)) f) := fun L hL Q f hz => oK_atq (agg := true) (fs := File_tfs) (l := L) (n := (i : Int)) zF (by omega) (by rw [Int.toNat_natCast]; omega) (by rw [Int.toNat_natCast]; exact hz)
    unfold ap_s_r
    rw [e1]
    refine bK_tq (Q := fun z => z = _) (decide_eq_true (by omega)) ?_
    refine bK_nq (Q := fun z => z = _) (fun c1 => ?_) (fun c1 => ?_)
    · obtain ⟨q1, q2⟩ := p1 c1
      refine at_ _ l2 (Q := fun z => z = _) (at_ _ l1 (Q := fun z => z = _) ?_)
      rw [q1]
      refine bK_fq (Q := fun z => z = _) (feq _) (at_ _ l3 (Q := fun z => z = _) (at_ _ l1 (Q := fun z => z = _) ?_))
      rw [q2]
      refine bK_fq (Q := fun z => z = _) (feq _) ?_
      refine bK_nq (Q := fun z => z = _) (fun c2 => ?_) (fun c2 => ?_)
      · refine at_ _ l4 (Q := fun z => z = _) (at_ _ l1 (Q := fun z => z = _) ?_)
        rw [p2 c2]
        refine bK_fq (Q := fun z => z = _) (feq _) (at_ _ l1 (Q := fun z => z = _) ?_)
        refine bK_nq (Q := fun z => z = _) (fun c3 => ?_) (fun c3 => rfl)
        refine at_ _ l4 (Q := fun z => z = _) (at_ _ l1 (Q := fun z => z = _) ?_)
        rw [p3 c3]
        exact bK_fq (Q := fun z => z = _) (feq _) rfl
      · refine at_ _ l1 (Q := fun z => z = _) ?_
        refine bK_nq (Q := fun z => z = _) (fun c3 => ?_) (fun c3 => rfl)
        refine at_ _ l4 (Q := fun z => z = _) (at_ _ l1 (Q := fun z => z = _) ?_)
        rw [p3 c3]
        exact bK_fq (Q := fun z => z = _) (feq _) rfl
    · refine bK_nq (Q := fun z => z = _) (fun c2 => ?_) (fun c2 => ?_)
      · refine at_ _ l4 (Q := fun z => z = _) (at_ _ l1 (Q := fun z => z = _) ?_)
        rw [p2 c2]
        refine bK_fq (Q := fun z => z = _) (feq _) (at_ _ l1 (Q := fun z => z = _) ?_)
        refine bK_nq (Q := fun z => z = _) (fun c3 => ?_) (fun c3 => rfl)
        refine at_ _ l4 (Q := fun z => z = _) (at_ _ l1 (Q := fun z => z = _) ?_)
        rw [p3 c3]
        exact bK_fq (Q := fun z => z = _) (feq _) rfl
      · refine at_ _ l1 (Q := fun z => z = _) ?_
        refine bK_nq (Q := fun z => z = _) (fun c3 => ?_) (fun c3 => rfl)
        refine at_ _ l4 (Q := fun z => z = _) (at_ _ l1 (Q := fun z => z = _) ?_)
        rw [p3 c3]
        exact bK_fq (Q := fun z => z = _) (feq _) rfl
abbrev ApD : Type := State_T × Int × State_T × State_T × State_T × Mark_T
def apHd (d : ApD) : St := apH d.1 d.2.1 d.2.2.1 d.2.2.2.1 d.2.2.2.2.1 d.2.2.2.2.2 0
noncomputable def apL : LP := LP.of apHd (fun d => apP d.1 d.2.1 d.2.2.1 d.2.2.2.1 d.2.2.2.2.1 d.2.2.2.2.2) fun d => .leaf (apE d.1 d.2.1 d.2.2.1 d.2.2.2.1)
noncomputable def apLP : LPs := LPs.add LP0 7 0 apL
theorem apLP_ok : LPok Try.prog cfg Q4 apLP 7 := LPok.addH LPok.none apo fun d h => ap_run _ _ _ _ _ _ h 6 0 (by omega) rounds (by simp only [rounds]; omega)
theorem apHd_inj (d d' : ApD) (h : apHd d = apHd d') : d = d' := by
  obtain ⟨s, n, a, b, c, m⟩ := d
  obtain ⟨s', n', a', b', c', m'⟩ := d'
  simp only [apHd, apH, boxB, St.mk.injEq, List.cons.injEq, Prod.mk.injEq, AV.int.injEq, Blk.mk.injEq, and_true, true_and] at h
  obtain ⟨h0, h1, h2, h3, h4, h5⟩ := h
  rw [h0, mk_inj (fs := State_tfs) rfl h1, mk_inj (fs := State_tfs) rfl h2, mk_inj (fs := State_tfs) rfl h3, mk_inj (fs := State_tfs) rfl h4, mk_inj (fs := Mark_tfs) rfl h5]
abbrev stateApart_id : Nat := 7
abbrev stateApart_sh : Shp := [none, none, none]
abbrev stateApart_fs : List Lf := [.fl false [.fi .u8], .fl false [.fi .u8], .fi .u8]
abbrev stateApart_rsh : Shp := [none]
abbrev stateApart_rfs : List Lf := [.fb]
noncomputable def stateApart_r (picks_x : Bool) (picks : List Int) (more_x : Bool) (more : List Int) (f : Int) : Option Ret :=
  oK (begunS.dec [] []) fun (d0 : PUnit) =>
  bK (decide (60 < (↑(List.map (mkV false [Lf.fi IntKind.u8]) picks).length : Int))) (some { pan := false, res := AV.bool true, out := [], new := [] })
    (bK (decide (10 < (↑(List.map (mkV false [Lf.fi IntKind.u8]) more).length : Int))) (some { pan := false, res := AV.bool true, out := [], new := [] })
      (oK (statePS.dec [AV.ptr 1000000 0 0 0, AV.int IntKind.i64 25] [{ v := 0, k := BK.box, fz := false, sz := 0, es := [AV.slc picks_x (List.map (mkV false [Lf.fi IntKind.u8]) picks), AV.int IntKind.i64 0] }]) fun (d1 : ((Bool × List Int) × Int) × Int) =>
        oK (writesoS.dec [AV.ptr 1000000 0 0 0, AV.int IntKind.i64 3] [{ v := 0, k := BK.box, fz := false, sz := 0, es := [AV.slc more_x (List.map (mkV false [Lf.fi IntKind.u8]) more), AV.int IntKind.i64 0] }]) fun (d2 : ((Bool × List Int) × Int) × Int) =>
          bK (List.map (mkV true Write_tfs) (writesQ d2.fst d2.snd).snd.snd).isEmpty
            (oK (writeS.dec [AV.ptr 1000000 0 0 0] [{ v := 0, k := BK.box, fz := false, sz := 0, es := [AV.slc (writesQ d2.fst d2.snd).fst.fst.fst (List.map (mkV false [Lf.fi IntKind.u8]) (writesQ d2.fst d2.snd).fst.fst.snd), AV.int IntKind.i64 (writesQ d2.fst d2.snd).fst.snd] }]) fun (d3 : ((Bool × List Int) × Int) × PUnit) =>
              oK (flushPS.dec [AV.agg [AV.slc (stR (d1.fst, d1.snd)).snd.fst.fst (List.map (mkV true File_tfs) (stR (d1.fst, d1.snd)).snd.fst.snd), AV.slc (stR (d1.fst, d1.snd)).snd.snd.fst.fst (List.map (mkV true Mark_tfs) (stR (d1.fst, d1.snd)).snd.snd.fst.snd), AV.int IntKind.i64 (stR (d1.fst, d1.snd)).snd.snd.snd], AV.int IntKind.i64 1, AV.int IntKind.i64 900, AV.int IntKind.i64 (IntKind.i64.wrap (1 + IntKind.i64.wrap (f.tmod 6))), AV.slc false [AV.agg [AV.int IntKind.i64 (writeF d3.fst).snd.fst, AV.str (writeF d3.fst).snd.snd]]] []) fun (d4 : (Bool × List (List UInt8 × Int × List UInt8)) × (Bool × List (Int × Int × Int × Int)) × Int × Int × Int × Int × Bool × List (Int × List UInt8)) =>
                oK (gonePS.dec [AV.agg [AV.slc (stR (d1.fst, d1.snd)).snd.fst.fst (List.map (mkV true File_tfs) (stR (d1.fst, d1.snd)).snd.fst.snd), AV.slc (stR (d1.fst, d1.snd)).snd.snd.fst.fst (List.map (mkV true Mark_tfs) (stR (d1.fst, d1.snd)).snd.snd.fst.snd), AV.int IntKind.i64 (stR (d1.fst, d1.snd)).snd.snd.snd], AV.int IntKind.i64 1, AV.int IntKind.i64 900, AV.int IntKind.i64 (IntKind.i64.wrap (1 + IntKind.i64.wrap (f.tmod 6)))] []) fun (d5 : (Bool × List (List UInt8 × Int × List UInt8)) × (Bool × List (Int × Int × Int × Int)) × Int × Int × Int × Int) =>
                  oK (nameS.dec [AV.ptr 1000000 0 0 0] [{ v := 0, k := BK.box, fz := false, sz := 0, es := [AV.slc (writeF d3.fst).fst.fst.fst (List.map (mkV false [Lf.fi IntKind.u8]) (writeF d3.fst).fst.fst.snd), AV.int IntKind.i64 (writeF d3.fst).fst.snd] }]) fun (d6 : ((Bool × List Int) × Int) × PUnit) =>
                    oK (openPS.dec [AV.agg [AV.slc (stR (d1.fst, d1.snd)).snd.fst.fst (List.map (mkV true File_tfs) (stR (d1.fst, d1.snd)).snd.fst.snd), AV.slc (stR (d1.fst, d1.snd)).snd.snd.fst.fst (List.map (mkV true Mark_tfs) (stR (d1.fst, d1.snd)).snd.snd.fst.snd), AV.int IntKind.i64 (stR (d1.fst, d1.snd)).snd.snd.snd], AV.int IntKind.i64 1, AV.int IntKind.i64 900, AV.str (nameF d6.fst).snd] []) fun (d7 : (Bool × List (List UInt8 × Int × List UInt8)) × (Bool × List (Int × Int × Int × Int)) × Int × Int × Int × List UInt8) =>
                      bK (!decide ((↑(List.map (mkV true File_tfs) (sOut (flushQ (fS d4) d4.snd.snd.snd.fst d4.snd.snd.snd.snd.fst d4.snd.snd.snd.snd.snd.fst d4.snd.snd.snd.snd.snd.snd.snd)).fst.snd).length : Int) = 6)) (some { pan := false, res := AV.bool false, out := [], new := [] })
                        (bK (!decide ((↑(List.map (mkV true File_tfs) (sOut (goneQ (gS d5) d5.snd.snd.snd.fst d5.snd.snd.snd.snd.fst d5.snd.snd.snd.snd.snd)).fst.snd).length : Int) = 6)) (some { pan := false, res := AV.bool false, out := [], new := [] })
                          (bK (!decide ((↑(List.map (mkV true File_tfs) (sOut (openQ (oS d7) d7.snd.snd.snd.fst d7.snd.snd.snd.snd.fst d7.snd.snd.snd.snd.snd)).fst.snd).length : Int) = 6)) (some { pan := false, res := AV.bool false, out := [], new := [] })
                            (oK
                              (apL.dec
                                { fr := [(7, AV.ptr 112 0 0 0), (9, AV.int IntKind.i64 (IntKind.i64.wrap (1 + IntKind.i64.wrap (f.tmod 6)))), (10, AV.ptr 160 0 0 0), (12, AV.ptr 192 0 0 0), (14, AV.ptr 224 0 0 0), (15, AV.ptr 240 0 0 0), (16, AV.int IntKind.i64 0)],
                                  bs :=
                                    [(112, { v := 0, k := BK.box, fz := false, sz := 0, es := [AV.slc (stR (d1.fst, d1.snd)).snd.fst.fst (List.map (mkV true File_tfs) (stR (d1.fst, d1.snd)).snd.fst.snd), AV.slc (stR (d1.fst, d1.snd)).snd.snd.fst.fst (List.map (mkV true Mark_tfs) (stR (d1.fst, d1.snd)).snd.snd.fst.snd), AV.int IntKind.i64 (stR (d1.fst, d1.snd)).snd.snd.snd] }), (160, { v := 0, k := BK.box, fz := false, sz := 0, es := [AV.slc (sOut (flushQ (fS d4) d4.snd.snd.snd.fst d4.snd.snd.snd.snd.fst d4.snd.snd.snd.snd.snd.fst d4.snd.snd.snd.snd.snd.snd.snd)).fst.fst (List.map (mkV true File_tfs) (sOut (flushQ (fS d4) d4.snd.snd.snd.fst d4.snd.snd.snd.snd.fst d4.snd.snd.snd.snd.snd.fst d4.snd.snd.snd.snd.snd.snd.snd)).fst.snd), AV.slc (sOut (flushQ (fS d4) d4.snd.snd.snd.fst d4.snd.snd.snd.snd.fst d4.snd.snd.snd.snd.snd.fst d4.snd.snd.snd.snd.snd.snd.snd)).snd.fst.fst (List.map (mkV true Mark_tfs) (sOut (flushQ (fS d4) d4.snd.snd.snd.fst d4.snd.snd.snd.snd.fst d4.snd.snd.snd.snd.snd.fst d4.snd.snd.snd.snd.snd.snd.snd)).snd.fst.snd), AV.int IntKind.i64 (sOut (flushQ (fS d4) d4.snd.snd.snd.fst d4.snd.snd.snd.snd.fst d4.snd.snd.snd.snd.snd.fst d4.snd.snd.snd.snd.snd.snd.snd)).snd.snd.fst] }),
                                      (192, { v := 0, k := BK.box, fz := false, sz := 0, es := [AV.slc (sOut (goneQ (gS d5) d5.snd.snd.snd.fst d5.snd.snd.snd.snd.fst d5.snd.snd.snd.snd.snd)).fst.fst (List.map (mkV true File_tfs) (sOut (goneQ (gS d5) d5.snd.snd.snd.fst d5.snd.snd.snd.snd.fst d5.snd.snd.snd.snd.snd)).fst.snd), AV.slc (sOut (goneQ (gS d5) d5.snd.snd.snd.fst d5.snd.snd.snd.snd.fst d5.snd.snd.snd.snd.snd)).snd.fst.fst (List.map (mkV true Mark_tfs) (sOut (goneQ (gS d5) d5.snd.snd.snd.fst d5.snd.snd.snd.snd.fst d5.snd.snd.snd.snd.snd)).snd.fst.snd), AV.int IntKind.i64 (sOut (goneQ (gS d5) d5.snd.snd.snd.fst d5.snd.snd.snd.snd.fst d5.snd.snd.snd.snd.snd)).snd.snd.fst] }), (224, { v := 0, k := BK.box, fz := false, sz := 0, es := [AV.slc (sOut (openQ (oS d7) d7.snd.snd.snd.fst d7.snd.snd.snd.snd.fst d7.snd.snd.snd.snd.snd)).fst.fst (List.map (mkV true File_tfs) (sOut (openQ (oS d7) d7.snd.snd.snd.fst d7.snd.snd.snd.snd.fst d7.snd.snd.snd.snd.snd)).fst.snd), AV.slc (sOut (openQ (oS d7) d7.snd.snd.snd.fst d7.snd.snd.snd.snd.fst d7.snd.snd.snd.snd.snd)).snd.fst.fst (List.map (mkV true Mark_tfs) (sOut (openQ (oS d7) d7.snd.snd.snd.fst d7.snd.snd.snd.snd.fst d7.snd.snd.snd.snd.snd)).snd.fst.snd), AV.int IntKind.i64 (sOut (openQ (oS d7) d7.snd.snd.snd.fst d7.snd.snd.snd.snd.fst d7.snd.snd.snd.snd.snd)).snd.snd.fst] }),
                                      (240, { v := 0, k := BK.box, fz := false, sz := 0, es := [AV.int IntKind.i64 (sOut (openQ (oS d7) d7.snd.snd.snd.fst d7.snd.snd.snd.snd.fst d7.snd.snd.snd.snd.snd)).snd.snd.snd.fst, AV.int IntKind.i64 (sOut (openQ (oS d7) d7.snd.snd.snd.fst d7.snd.snd.snd.snd.fst d7.snd.snd.snd.snd.snd)).snd.snd.snd.snd.fst, AV.int IntKind.i64 (sOut (openQ (oS d7) d7.snd.snd.snd.fst d7.snd.snd.snd.snd.fst d7.snd.snd.snd.snd.snd)).snd.snd.snd.snd.snd.fst, AV.int IntKind.i64 (sOut (openQ (oS d7) d7.snd.snd.snd.fst d7.snd.snd.snd.snd.fst d7.snd.snd.snd.snd.snd)).snd.snd.snd.snd.snd.snd] })],
                                  df := [] })
                              fun (d8 : ((Bool × List (List UInt8 × Int × List UInt8)) × (Bool × List (Int × Int × Int × Int)) × Int) × Int × ((Bool × List (List UInt8 × Int × List UInt8)) × (Bool × List (Int × Int × Int × Int)) × Int) × ((Bool × List (List UInt8 × Int × List UInt8)) × (Bool × List (Int × Int × Int × Int)) × Int) × ((Bool × List (List UInt8 × Int × List UInt8)) × (Bool × List (Int × Int × Int × Int)) × Int) × Int × Int × Int × Int) => oK (elemAt true File_tfs (List.map (mkV true File_tfs) d8.snd.snd.fst.fst.snd) (IntKind.i64.wrap (d8.snd.fst - 1))) fun (d9 : List UInt8 × Int × List UInt8) => oK (elemAt true File_tfs (List.map (mkV true File_tfs) d8.fst.fst.snd) (IntKind.i64.wrap (d8.snd.fst - 1))) fun (d10 : List UInt8 × Int × List UInt8) => bK (decide (d9.fst = d10.fst)) (oK (elemAt true File_tfs (List.map (mkV true File_tfs) d8.snd.snd.snd.fst.fst.snd) (IntKind.i64.wrap (d8.snd.fst - 1))) fun (d11 : List UInt8 × Int × List UInt8) => some { pan := false, res := AV.bool (decide (d11.fst = []) && (decide (d11.snd.fst = 0) && (decide (d11.snd.snd = []) && true))), out := [], new := [] }) (some { pan := false, res := AV.bool false, out := [], new := [] })))))
            (oK (writeS.dec [AV.ptr 1000000 0 0 0] [{ v := 0, k := BK.box, fz := false, sz := 0, es := [AV.slc (writesQ d2.fst d2.snd).fst.fst.fst (List.map (mkV false [Lf.fi IntKind.u8]) (writesQ d2.fst d2.snd).fst.fst.snd), AV.int IntKind.i64 (writesQ d2.fst d2.snd).fst.snd] }]) fun (d12 : ((Bool × List Int) × Int) × PUnit) =>
              bK (decide (0 + (List.map (mkV true Write_tfs) (writesQ d2.fst d2.snd).snd.snd).length ≤ (List.map (mkV true Write_tfs) (writesQ d2.fst d2.snd).snd.snd).length))
                (bK (decide (0 = 0 ∧ (List.map (mkV true Write_tfs) (writesQ d2.fst d2.snd).snd.snd).length = (List.map (mkV true Write_tfs) (writesQ d2.fst d2.snd).snd.snd).length) && bytesFit Try.prog 26 ((List.map (mkV true Write_tfs) (writesQ d2.fst d2.snd).snd.snd).length + 1))
                  (bK (decide (0 + ((List.map (mkV true Write_tfs) (writesQ d2.fst d2.snd).snd.snd).length + 1) ≤ (List.take (List.map (mkV true Write_tfs) (writesQ d2.fst d2.snd).snd.snd).length (List.map (mkV true Write_tfs) (writesQ d2.fst d2.snd).snd.snd) ++ [AV.agg [AV.int IntKind.i64 (writeF d12.fst).snd.fst, AV.str (writeF d12.fst).snd.snd]]).length))
                    (oK (flushPS.dec [AV.agg [AV.slc (stR (d1.fst, d1.snd)).snd.fst.fst (List.map (mkV true File_tfs) (stR (d1.fst, d1.snd)).snd.fst.snd), AV.slc (stR (d1.fst, d1.snd)).snd.snd.fst.fst (List.map (mkV true Mark_tfs) (stR (d1.fst, d1.snd)).snd.snd.fst.snd), AV.int IntKind.i64 (stR (d1.fst, d1.snd)).snd.snd.snd], AV.int IntKind.i64 1, AV.int IntKind.i64 900, AV.int IntKind.i64 (IntKind.i64.wrap (1 + IntKind.i64.wrap (f.tmod 6))), AV.slc false (List.take ((List.map (mkV true Write_tfs) (writesQ d2.fst d2.snd).snd.snd).length + 1) (List.drop 0 (List.take (List.map (mkV true Write_tfs) (writesQ d2.fst d2.snd).snd.snd).length (List.map (mkV true Write_tfs) (writesQ d2.fst d2.snd).snd.snd) ++ [AV.agg [AV.int IntKind.i64 (writeF d12.fst).snd.fst, AV.str (writeF d12.fst).snd.snd]])))] []) fun (d13 : (Bool × List (List UInt8 × Int × List UInt8)) × (Bool × List (Int × Int × Int × Int)) × Int × Int × Int × Int × Bool × List (Int × List UInt8)) =>
                      bK (decide (0 + ((List.map (mkV true Write_tfs) (writesQ d2.fst d2.snd).snd.snd).length + 1) ≤ (List.take (List.map (mkV true Write_tfs) (writesQ d2.fst d2.snd).snd.snd).length (List.map (mkV true Write_tfs) (writesQ d2.fst d2.snd).snd.snd) ++ [AV.agg [AV.int IntKind.i64 (writeF d12.fst).snd.fst, AV.str (writeF d12.fst).snd.snd]]).length))
                        (oK (gonePS.dec [AV.agg [AV.slc (stR (d1.fst, d1.snd)).snd.fst.fst (List.map (mkV true File_tfs) (stR (d1.fst, d1.snd)).snd.fst.snd), AV.slc (stR (d1.fst, d1.snd)).snd.snd.fst.fst (List.map (mkV true Mark_tfs) (stR (d1.fst, d1.snd)).snd.snd.fst.snd), AV.int IntKind.i64 (stR (d1.fst, d1.snd)).snd.snd.snd], AV.int IntKind.i64 1, AV.int IntKind.i64 900, AV.int IntKind.i64 (IntKind.i64.wrap (1 + IntKind.i64.wrap (f.tmod 6)))] []) fun (d14 : (Bool × List (List UInt8 × Int × List UInt8)) × (Bool × List (Int × Int × Int × Int)) × Int × Int × Int × Int) =>
                          oK (nameS.dec [AV.ptr 1000000 0 0 0] [{ v := 0, k := BK.box, fz := false, sz := 0, es := [AV.slc (writeF d12.fst).fst.fst.fst (List.map (mkV false [Lf.fi IntKind.u8]) (writeF d12.fst).fst.fst.snd), AV.int IntKind.i64 (writeF d12.fst).fst.snd] }]) fun (d15 : ((Bool × List Int) × Int) × PUnit) =>
                            oK (openPS.dec [AV.agg [AV.slc (stR (d1.fst, d1.snd)).snd.fst.fst (List.map (mkV true File_tfs) (stR (d1.fst, d1.snd)).snd.fst.snd), AV.slc (stR (d1.fst, d1.snd)).snd.snd.fst.fst (List.map (mkV true Mark_tfs) (stR (d1.fst, d1.snd)).snd.snd.fst.snd), AV.int IntKind.i64 (stR (d1.fst, d1.snd)).snd.snd.snd], AV.int IntKind.i64 1, AV.int IntKind.i64 900, AV.str (nameF d15.fst).snd] []) fun (d16 : (Bool × List (List UInt8 × Int × List UInt8)) × (Bool × List (Int × Int × Int × Int)) × Int × Int × Int × List UInt8) =>
                              bK (!decide ((↑(List.map (mkV true File_tfs) (sOut (flushQ (fS d13) d13.snd.snd.snd.fst d13.snd.snd.snd.snd.fst d13.snd.snd.snd.snd.snd.fst d13.snd.snd.snd.snd.snd.snd.snd)).fst.snd).length : Int) = 6)) (some { pan := false, res := AV.bool false, out := [], new := [] })
                                (bK (!decide ((↑(List.map (mkV true File_tfs) (sOut (goneQ (gS d14) d14.snd.snd.snd.fst d14.snd.snd.snd.snd.fst d14.snd.snd.snd.snd.snd)).fst.snd).length : Int) = 6)) (some { pan := false, res := AV.bool false, out := [], new := [] })
                                  (bK (!decide ((↑(List.map (mkV true File_tfs) (sOut (openQ (oS d16) d16.snd.snd.snd.fst d16.snd.snd.snd.snd.fst d16.snd.snd.snd.snd.snd)).fst.snd).length : Int) = 6)) (some { pan := false, res := AV.bool false, out := [], new := [] })
                                    (oK
                                      (apL.dec
                                        { fr := [(7, AV.ptr 112 0 0 0), (9, AV.int IntKind.i64 (IntKind.i64.wrap (1 + IntKind.i64.wrap (f.tmod 6)))), (10, AV.ptr 160 0 0 0), (12, AV.ptr 192 0 0 0), (14, AV.ptr 224 0 0 0), (15, AV.ptr 240 0 0 0), (16, AV.int IntKind.i64 0)],
                                          bs :=
                                            [(112, { v := 0, k := BK.box, fz := false, sz := 0, es := [AV.slc (stR (d1.fst, d1.snd)).snd.fst.fst (List.map (mkV true File_tfs) (stR (d1.fst, d1.snd)).snd.fst.snd), AV.slc (stR (d1.fst, d1.snd)).snd.snd.fst.fst (List.map (mkV true Mark_tfs) (stR (d1.fst, d1.snd)).snd.snd.fst.snd), AV.int IntKind.i64 (stR (d1.fst, d1.snd)).snd.snd.snd] }), (160, { v := 0, k := BK.box, fz := false, sz := 0, es := [AV.slc (sOut (flushQ (fS d13) d13.snd.snd.snd.fst d13.snd.snd.snd.snd.fst d13.snd.snd.snd.snd.snd.fst d13.snd.snd.snd.snd.snd.snd.snd)).fst.fst (List.map (mkV true File_tfs) (sOut (flushQ (fS d13) d13.snd.snd.snd.fst d13.snd.snd.snd.snd.fst d13.snd.snd.snd.snd.snd.fst d13.snd.snd.snd.snd.snd.snd.snd)).fst.snd), AV.slc (sOut (flushQ (fS d13) d13.snd.snd.snd.fst d13.snd.snd.snd.snd.fst d13.snd.snd.snd.snd.snd.fst d13.snd.snd.snd.snd.snd.snd.snd)).snd.fst.fst (List.map (mkV true Mark_tfs) (sOut (flushQ (fS d13) d13.snd.snd.snd.fst d13.snd.snd.snd.snd.fst d13.snd.snd.snd.snd.snd.fst d13.snd.snd.snd.snd.snd.snd.snd)).snd.fst.snd), AV.int IntKind.i64 (sOut (flushQ (fS d13) d13.snd.snd.snd.fst d13.snd.snd.snd.snd.fst d13.snd.snd.snd.snd.snd.fst d13.snd.snd.snd.snd.snd.snd.snd)).snd.snd.fst] }),
                                              (192, { v := 0, k := BK.box, fz := false, sz := 0, es := [AV.slc (sOut (goneQ (gS d14) d14.snd.snd.snd.fst d14.snd.snd.snd.snd.fst d14.snd.snd.snd.snd.snd)).fst.fst (List.map (mkV true File_tfs) (sOut (goneQ (gS d14) d14.snd.snd.snd.fst d14.snd.snd.snd.snd.fst d14.snd.snd.snd.snd.snd)).fst.snd), AV.slc (sOut (goneQ (gS d14) d14.snd.snd.snd.fst d14.snd.snd.snd.snd.fst d14.snd.snd.snd.snd.snd)).snd.fst.fst (List.map (mkV true Mark_tfs) (sOut (goneQ (gS d14) d14.snd.snd.snd.fst d14.snd.snd.snd.snd.fst d14.snd.snd.snd.snd.snd)).snd.fst.snd), AV.int IntKind.i64 (sOut (goneQ (gS d14) d14.snd.snd.snd.fst d14.snd.snd.snd.snd.fst d14.snd.snd.snd.snd.snd)).snd.snd.fst] }), (224, { v := 0, k := BK.box, fz := false, sz := 0, es := [AV.slc (sOut (openQ (oS d16) d16.snd.snd.snd.fst d16.snd.snd.snd.snd.fst d16.snd.snd.snd.snd.snd)).fst.fst (List.map (mkV true File_tfs) (sOut (openQ (oS d16) d16.snd.snd.snd.fst d16.snd.snd.snd.snd.fst d16.snd.snd.snd.snd.snd)).fst.snd), AV.slc (sOut (openQ (oS d16) d16.snd.snd.snd.fst d16.snd.snd.snd.snd.fst d16.snd.snd.snd.snd.snd)).snd.fst.fst (List.map (mkV true Mark_tfs) (sOut (openQ (oS d16) d16.snd.snd.snd.fst d16.snd.snd.snd.snd.fst d16.snd.snd.snd.snd.snd)).snd.fst.snd), AV.int IntKind.i64 (sOut (openQ (oS d16) d16.snd.snd.snd.fst d16.snd.snd.snd.snd.fst d16.snd.snd.snd.snd.snd)).snd.snd.fst] }),
                                              (240, { v := 0, k := BK.box, fz := false, sz := 0, es := [AV.int IntKind.i64 (sOut (openQ (oS d16) d16.snd.snd.snd.fst d16.snd.snd.snd.snd.fst d16.snd.snd.snd.snd.snd)).snd.snd.snd.fst, AV.int IntKind.i64 (sOut (openQ (oS d16) d16.snd.snd.snd.fst d16.snd.snd.snd.snd.fst d16.snd.snd.snd.snd.snd)).snd.snd.snd.snd.fst, AV.int IntKind.i64 (sOut (openQ (oS d16) d16.snd.snd.snd.fst d16.snd.snd.snd.snd.fst d16.snd.snd.snd.snd.snd)).snd.snd.snd.snd.snd.fst, AV.int IntKind.i64 (sOut (openQ (oS d16) d16.snd.snd.snd.fst d16.snd.snd.snd.snd.fst d16.snd.snd.snd.snd.snd)).snd.snd.snd.snd.snd.snd] })],
                                          df := [] })
                                      fun (d17 : ((Bool × List (List UInt8 × Int × List UInt8)) × (Bool × List (Int × Int × Int × Int)) × Int) × Int × ((Bool × List (List UInt8 × Int × List UInt8)) × (Bool × List (Int × Int × Int × Int)) × Int) × ((Bool × List (List UInt8 × Int × List UInt8)) × (Bool × List (Int × Int × Int × Int)) × Int) × ((Bool × List (List UInt8 × Int × List UInt8)) × (Bool × List (Int × Int × Int × Int)) × Int) × Int × Int × Int × Int) => oK (elemAt true File_tfs (List.map (mkV true File_tfs) d17.snd.snd.fst.fst.snd) (IntKind.i64.wrap (d17.snd.fst - 1))) fun (d18 : List UInt8 × Int × List UInt8) => oK (elemAt true File_tfs (List.map (mkV true File_tfs) d17.fst.fst.snd) (IntKind.i64.wrap (d17.snd.fst - 1))) fun (d19 : List UInt8 × Int × List UInt8) => bK (decide (d18.fst = d19.fst)) (oK (elemAt true File_tfs (List.map (mkV true File_tfs) d17.snd.snd.snd.fst.fst.snd) (IntKind.i64.wrap (d17.snd.fst - 1))) fun (d20 : List UInt8 × Int × List UInt8) => some { pan := false, res := AV.bool (decide (d20.fst = []) && (decide (d20.snd.fst = 0) && (decide (d20.snd.snd = []) && true))), out := [], new := [] }) (some { pan := false, res := AV.bool false, out := [], new := [] })))))
                        none)
                    none)
                  none)
                none)))
theorem stateApart_w (picks_x : Bool) (picks : List Int) (more_x : Bool) (more : List Int) (f : Int) : unitQ Try.prog cfg Q4 apLP true 7 (groupA stateApart_sh (Tu.mk stateApart_fs ((picks_x, picks), (more_x, more), f))) [] = stateApart_r picks_x picks more_x more f := by kernel_rfl

theorem ap_all {s : State_T} (h : StInv 30 s) (n : Int) (hn : 1 ≤ n ∧ n ≤ 6) (W : List Write_T) (nm : List UInt8) : apP s n (flushF s 1 900 n W).1 (goneF s 1 900 n).1 (openF s 1 900 nm).1 (openF s 1 900 nm).2 := by
  have hl := h.1.1
  have e6 : ∀ (i : Nat) (f : File_T), (s.1.2.set i f).length = 6 := fun i f => by rw [List.length_set]; exact hl
  have hg := gone_files s 1 900 n
  have hw : IntKind.i64.wrap (n - 1) = n - 1 := w64 (by omega) (by omega)
  have key : ∀ (i k : Nat) (f : File_T), i < 6 → k < 6 → i ≠ k → (s.1.2.set k f).getD i zF = s.1.2.getD i zF := fun i k f hi hk hne => by
    rw [getD_set _ _ _ _ (by omega), if_neg hne]
  refine ⟨⟨hl, ?_, ?_, ?_⟩, fun i hi => ⟨fun hne => ⟨?_, ?_⟩, fun hne => ?_, fun hne => ?_⟩⟩
  · rcases flush_files s 1 900 n W with e | ⟨_, f, _, e⟩ <;> rw [e]
    · exact hl
    · exact e6 _ _
  · rw [hg]; split
    · exact e6 _ _
    · exact hl
  · rcases open_files s 1 900 nm with e | ⟨_, _, f, e⟩ <;> rw [e]
    · exact hl
    · exact e6 _ _
  · rw [hw] at hne
    rcases flush_files s 1 900 n W with e | ⟨_, f, _, e⟩ <;> rw [e]
    exact key _ _ _ hi (by omega) (by omega)
  · rw [hw] at hne
    rw [hg]; split
    · exact key _ _ _ hi (by omega) (by omega)
    · rfl
  · rcases open_files s 1 900 nm with e | ⟨hr, _, f, e⟩
    · rw [e]
    · rw [w64 (by omega) (by omega)] at hne
      rw [e]
      exact key _ _ _ hi (by omega) (by omega)
  · rcases open_files s 1 900 nm with e | ⟨hr, hz, f, e⟩
    · rw [e]
    · rw [e]
      refine key _ _ _ hi (by omega) (fun hk => hne ?_)
      rw [hk]; exact hz
theorem ap_name {s : State_T} (h : StInv 30 s) (n : Int) (hn : 1 ≤ n ∧ n ≤ 6) (W : List Write_T) : ((flushF s 1 900 n W).1.1.2.getD (n - 1).toNat zF).1 = (s.1.2.getD (n - 1).toNat zF).1 := by
  have hl := h.1.1
  rcases flush_files s 1 900 n W with e | ⟨_, f, hf, e⟩
  · rw [e]
  · rw [e, getD_set _ _ _ _ (by omega), if_pos rfl]; exact hf
theorem ap_zero {s : State_T} (h : StInv 30 s) (n : Int) (hn : 1 ≤ n ∧ n ≤ 6) : (goneF s 1 900 n).1.1.2.getD (n - 1).toNat zF = zF := by
  have hl := h.1.1
  rw [gone_files]
  split
  · rw [getD_set _ _ _ _ (by omega), if_pos rfl]
  · rename_i hi
    have hm : s.1.2.getD (n - 1).toNat zF ∈ s.1.2 := getD_memF (by omega)
    rcases h.1.2.1 _ hm with ⟨_, hz⟩ | ⟨hz, _⟩
    · exact hz
    · exfalso
      apply hi
      unfold isF
      rw [decide_eq_true (by omega), Bool.true_and]
      have := mayN_ne hz
      have e : s.1.2.getD (n - 1).toNat ([], 0, []) = s.1.2.getD (n - 1).toNat zF := rfl
      rw [e, decide_eq_false this]
      rfl
theorem wfB {l : List Int} (h : ∀ d ∈ l, Tu.wf [.fi .u8] d) : ∀ v ∈ l, 0 ≤ v ∧ v < 256 := fun v hv => by
  have : (0 : Int) ≤ v ∧ v ≤ 255 := h v hv
  omega
theorem picks_ok {x : Bool} {l : List Int} (hl : l.length ≤ 1000) (h : ∀ d ∈ l, Tu.wf [.fi .u8] d) : pkOk ((x, l), 0) := ⟨by show (0 : Int) ≤ 0; omega, by show (0 : Int) ≤ 2 ^ 62; decide, by show l.length ≤ 2 ^ 62; omega, wfB h⟩
theorem sokP_of {s : State_T} (h : StInv 30 s) : sokP s := ⟨⟨by rw [h.1.1]; decide, by rw [h.1.1]; decide⟩, by rw [h.2.1.1]; decide, by rw [h.2.1.1]; decide⟩
set_option maxHeartbeats 2000000 in
theorem stateApart_yes (picks_x : Bool) (picks : List Int) (more_x : Bool) (more : List Int) (f : Int) (h : Tu.wf stateApart_fs ((picks_x, picks), (more_x, more), f)) : Yes (stateApart_r picks_x picks more_x more f) := by
  unfold stateApart_r
  refine oK_fsq begunS () trivial ?_
  refine bK_iq (fun _ => yes_leaf) (fun h1 => bK_iq (fun _ => yes_leaf) (fun h2 => ?_))
  rw [List.length_map] at h1 h2
  obtain ⟨⟨_, w1⟩, ⟨_, w2⟩, w3⟩ := h
  have w3' : (0 : Int) ≤ f ∧ f ≤ 255 := w3
  have hp1 : pkOk ((picks_x, picks), 0) := picks_ok (by omega) w1
  have hp2 : pkOk ((more_x, more), 0) := picks_ok (by omega) w2
  have hsp : stP (((picks_x, picks), 0), 25) := ⟨hp1, by show (0 : Int) ≤ 25; decide, by show (25 : Int) ≤ 30; decide⟩
  refine oK_msq statePS ((picks_x, picks), (0 : Int)) (25 : Int) hsp ?_
  have hst := (stR_spec _ hsp).1.2
  dsimp only
  generalize stR (((picks_x, picks), 0), 25) = z at hst ⊢
  obtain ⟨zb, s⟩ := z
  dsimp only at hst ⊢
  have hn : 1 ≤ IntKind.i64.wrap (1 + IntKind.i64.wrap (f.tmod 6)) ∧ IntKind.i64.wrap (1 + IntKind.i64.wrap (f.tmod 6)) ≤ 6 := by
    have := Int.tmod_nonneg 6 w3'.1
    have := Int.tmod_lt_of_pos f (show (0 : Int) < 6 by decide)
    rw [w64 (n := f.tmod 6) (by omega) (by omega), w64 (by omega) (by omega)]
    omega
  generalize IntKind.i64.wrap (1 + IntKind.i64.wrap (f.tmod 6)) = n at hn ⊢
  have hsP := sokP_of hst
  have hbody : ∀ f ∈ s.1.2, f.2.2.length ≤ 24 := fun f hf => fileOk_body (hst.1.2.1 f hf)
  refine oK_msq writesoS ((more_x, more), (0 : Int)) (3 : Int) ⟨hp2, by decide, by decide⟩ ?_
  have pB : pkOk (writesF ((more_x, more), 0) 3).1 := writesF_ok hp2
  have lW := writesF_len (most := 3) hp2 (by decide)
  have e1 : (writesQ ((more_x, more), 0) 3).1 = (writesF ((more_x, more), 0) 3).1 := rfl
  have e2 : (writesQ ((more_x, more), 0) 3).2.2 = (writesF ((more_x, more), 0) 3).2.2 := rfl
  dsimp only
  rw [e1, e2]
  generalize (writesF ((more_x, more), 0) 3).1 = B1 at pB ⊢
  generalize (writesF ((more_x, more), 0) 3).2.2 = W1 at lW ⊢
  have fin : ∀ (W : List Write_T) (nm : List UInt8), Yes
      (bK (!decide ((((flushF s 1 900 n W).1.1.2.map (mkV true File_tfs)).length : Int) = 6)) (some { pan := false, res := .bool false, out := [], new := [] })
        (bK (!decide ((((goneF s 1 900 n).1.1.2.map (mkV true File_tfs)).length : Int) = 6)) (some { pan := false, res := .bool false, out := [], new := [] })
          (bK (!decide ((((openF s 1 900 nm).1.1.2.map (mkV true File_tfs)).length : Int) = 6)) (some { pan := false, res := .bool false, out := [], new := [] })
            (oK (apL.dec (apHd (s, n, (flushF s 1 900 n W).1, (goneF s 1 900 n).1, (openF s 1 900 nm).1, (openF s 1 900 nm).2))) fun (d8 : ApD) =>
              oK (elemAt true File_tfs (d8.2.2.1.1.2.map (mkV true File_tfs)) (IntKind.i64.wrap (d8.2.1 - 1))) fun (d9 : File_T) => oK (elemAt true File_tfs (d8.1.1.2.map (mkV true File_tfs)) (IntKind.i64.wrap (d8.2.1 - 1))) fun (d10 : File_T) =>
                bK (decide (d9.1 = d10.1)) (oK (elemAt true File_tfs (d8.2.2.2.1.1.2.map (mkV true File_tfs)) (IntKind.i64.wrap (d8.2.1 - 1))) fun (d11 : File_T) => some { pan := false, res := .bool (decide (d11.1 = []) && (decide (d11.2.1 = 0) && (decide (d11.2.2 = []) && true))), out := [], new := [] }) (some { pan := false, res := .bool false, out := [], new := [] }))))) := by
    intro W nm
    have ha := ap_all hst n hn W nm
    obtain ⟨l1, l2, l3, l4⟩ := ha.1
    refine bK_fq (by rw [List.length_map, l2]; rfl) (bK_fq (by rw [List.length_map, l3]; rfl) (bK_fq (by rw [List.length_map, l4]; rfl) ?_))
    refine oK_lpq apHd_inj (s, n, (flushF s 1 900 n W).1, (goneF s 1 900 n).1, (openF s 1 900 nm).1, (openF s 1 900 nm).2) ha ?_
    dsimp only
    rw [w64 (n := n - 1) (by omega) (by omega)]
    refine oK_atq zF (by omega) (by omega) (oK_atq zF (by omega) (by omega) ?_)
    refine bK_tq (decide_eq_true (ap_name hst n hn W)) (oK_atq zF (by omega) (by omega) ?_)
    rw [ap_zero hst n hn]
    exact yes_of rfl
  refine bK_bq (fun _ => ?_) (fun hne => ?_)
  · refine oK_msq writeS B1 () pB ?_
    refine oK_fsq flushPS (s.1, s.2.1, s.2.2, (1 : Int), (900 : Int), n, (false, [(writeF B1).2])) ⟨⟨hsP, hbody⟩, by show 1 ≤ 1000; decide⟩ ?_
    refine oK_fsq gonePS (s.1, s.2.1, s.2.2, (1 : Int), (900 : Int), n) hsP ?_
    refine oK_msq nameS (writeF B1).1 () (writeF_ok pB) ?_
    refine oK_fsq openPS (s.1, s.2.1, s.2.2, (1 : Int), (900 : Int), (nameF (writeF B1).1).2) ⟨hsP, by have := nameF_len (writeF B1).1; show (nameF (writeF B1).1).2.length ≤ 1000; omega⟩ ?_
    exact fin [(writeF B1).2] (nameF (writeF B1).1).2
  · refine oK_msq writeS B1 () pB ?_
    have eW : List.take ((W1.map (mkV true Write_tfs)).length + 1) (List.drop 0 (List.take (W1.map (mkV true Write_tfs)).length (W1.map (mkV true Write_tfs)) ++ [.agg [.int .i64 (writeF B1).2.1, .str (writeF B1).2.2]])) = (W1 ++ [(writeF B1).2]).map (mkV true Write_tfs) := by
      rw [app_end _ _ _ (Nat.le_refl _), List.take_length, List.map_append]
      rfl
    dsimp only
    rw [eW]
    refine bK_tq (by simp) (bK_tq (by simp only [true_and, decide_true, Bool.true_and, List.length_map]; exact fitW (by omega)) (bK_tq (by simp) ?_))
    refine oK_fsq flushPS (s.1, s.2.1, s.2.2, (1 : Int), (900 : Int), n, (false, W1 ++ [(writeF B1).2])) ⟨⟨hsP, hbody⟩, by show (W1 ++ [(writeF B1).2]).length ≤ 1000; simp; omega⟩ ?_
    refine bK_tq (by simp) ?_
    refine oK_fsq gonePS (s.1, s.2.1, s.2.2, (1 : Int), (900 : Int), n) hsP ?_
    refine oK_msq nameS (writeF B1).1 () (writeF_ok pB) ?_
    refine oK_fsq openPS (s.1, s.2.1, s.2.2, (1 : Int), (900 : Int), (nameF (writeF B1).1).2) ⟨hsP, by have := nameF_len (writeF B1).1; show (nameF (writeF B1).1).2.length ≤ 1000; omega⟩ ?_
    exact fin (W1 ++ [(writeF B1).2]) (nameF (writeF B1).1).2

end Go.Proofs.Ytihgfpggdkhhaaa
