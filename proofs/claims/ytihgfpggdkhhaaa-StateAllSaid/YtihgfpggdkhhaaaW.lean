/- A part of the proof: contracts of functions. -/
import Derived.Test.YtihgfpggdkhhaaaI
import Derived.Test.YtihgfpggdkhhaaaAbAny

set_option linter.unusedVariables false
set_option linter.unusedSimpArgs false
set_option maxRecDepth 100000
namespace Go.Proofs.Ytihgfpggdkhhaaa
open Go Go.Ab
def stGood (most : Int) (k : Nat) (r : Option (St ⊕ (Ex × St))) : Prop := ∃ y : Picks_T × State_T, (pkOk y.1 ∧ StInv (k + 1) y.2) ∧ r = some (.inl (stHd y.1 most y.2 ((k : Int) + 1)))
theorem ep_open (s : State_T) (c q : Int) (nm : List UInt8) : (openF s c q nm).1.2.2 = s.2.2 := by
  unfold openF
  split
  · split
    · rfl
    · split <;> rfl
  · rfl
theorem ep_gone (s : State_T) (c q n : Int) : (goneF s c q n).1.2.2 = s.2.2 := by unfold goneF; split <;> rfl
theorem ep_flush (s : State_T) (c q n : Int) (l : List Write_T) : (flushF s c q n l).1.2.2 = s.2.2 := by
  unfold flushF
  split
  · split <;> rfl
  · rfl
theorem writesF_le {b : Picks_T} (h : pkOk b) : (writesF b 5).2.2.length ≤ 1000 := by have := writesF_len (most := 5) h (by decide); omega
set_option maxHeartbeats 2000000 in
theorem st_step (x : Bool) (l : List Int) (n most : Int) (s : State_T) (k : Nat) (hk : (k : Int) < most) (hm : most ≤ 30) (hp : pkOk ((x, l), n)) (hov : ¬ (l.length : Int) ≤ n) (h : StInv k s) : stGood most k (st_s_r x l n most s k) := by
  unfold st_s_r
  refine bK_tq (decide_eq_true hk) ?_
  refine oK_msq overS ((x, l), n) () trivial ?_
  refine bK_tq (by simpa using hov) ?_
  have e1 : IntKind.i64.wrap ((k : Int) + 1) = (k : Int) + 1 := w64 (by omega) (by omega)
  rw [e1]
  refine oK_msq numS ((x, l), n) (3 : Int) hp ?_
  have p1 := numF_ok (m := 3) hp
  have r1 := numF_lt (m := 3) hp (by omega)
  simp only
  generalize numF ((x, l), n) 3 = z1 at p1 r1 ⊢
  rw [w64 (n := 1 + z1.2) (by omega) (by omega), w64 (n := 1 + z1.2 - 1) (by omega) (by omega)]
  have hml := h.2.1.1
  have hix : (1 + z1.2 - 1).toNat < s.2.1.2.length := by rw [hml]; omega
  refine oK_atq zM (by omega) hix ?_
  have hmk : markOk (2 * (k : Int) + 1) (s.2.1.2.getD (1 + z1.2 - 1).toNat zM) := h.2.1.2 _ (by rw [getD_at hix]; exact List.getElem_mem hix)
  generalize s.2.1.2.getD (1 + z1.2 - 1).toNat zM = mk at hmk ⊢
  refine oK_msq numS z1.1 (3 : Int) p1 ?_
  have p2 := numF_ok (m := 3) p1
  have r2 := numF_lt (m := 3) p1 (by omega)
  simp only
  generalize numF z1.1 3 = z2 at p2 r2 ⊢
  obtain ⟨k1, k2, _⟩ := hmk
  have hq : 0 ≤ maxI (IntKind.i64.wrap (mk.1 + z2.2)) 1 ∧ maxI (IntKind.i64.wrap (mk.1 + z2.2)) 1 ≤ 2 * ((k + 1 : Nat) : Int) + 1 := by
    rw [w64 (by omega) (by omega)]
    unfold maxI
    split <;> omega
  generalize maxI (IntKind.i64.wrap (mk.1 + z2.2)) 1 = q at hq ⊢
  refine oK_msq numS z2.1 (6 : Int) p2 ?_
  have p3 := numF_ok (m := 6) p2
  simp only
  generalize numF z2.1 6 = z3 at p3 ⊢
  generalize 1 + z1.2 = c
  have tl : ∀ (b : Picks_T) (s' : State_T), pkOk b → StInv (k + 1) s' → s'.2.2 = s.2.2 → stGood most k (oK (numS.dec [AV.ptr 1000000 0 0 0, AV.int .i64 9] [boxB (Tu.mk num_bs b)]) fun (d7 : Picks_T × Int) => bK (decide ((numF d7.fst d7.snd).snd = 0)) (oK (bootRS.dec [.agg (Tu.mk State_tfs s')] []) fun (d8 : State_T) => some (.inl (stHd (numF d7.1 d7.2).1 most (bootF d8) ((k : Int) + 1)))) (some (.inl (stHd (numF d7.1 d7.2).1 most s' ((k : Int) + 1))))) := by
    intro b s' hb hs he
    refine oK_msq numS b (9 : Int) hb ?_
    have p := numF_ok (m := 9) hb
    refine bK_iq (fun _ => ?_) (fun _ => ⟨((numF b 9).1, s'), ⟨p, hs⟩, rfl⟩)
    refine oK_fsq bootRS s' trivial ?_
    refine ⟨((numF b 9).1, bootF s'), ⟨p, inv_boot hs (by omega) ?_⟩, rfl⟩
    have := h.2.2.2
    rw [he]
    omega
  have open_ : ∀ (b : Picks_T) (nm : List UInt8), pkOk b → nm.length ≤ 9 → stGood most k (oK (openRS.dec [.agg (Tu.mk State_tfs s), AV.int .i64 c, AV.int .i64 q, AV.str nm] []) fun (d6 : Tu openR_fs) =>
      oK (numS.dec [AV.ptr 1000000 0 0 0, AV.int .i64 9] [boxB (Tu.mk num_bs b)]) fun (d7 : Picks_T × Int) => bK (decide ((numF d7.fst d7.snd).snd = 0)) (oK (bootRS.dec [.agg (Tu.mk State_tfs (openQ (oS d6) d6.snd.snd.snd.fst d6.snd.snd.snd.snd.fst d6.snd.snd.snd.snd.snd).1)] []) fun (d8 : State_T) => some (.inl (stHd (numF d7.1 d7.2).1 most (bootF d8) ((k : Int) + 1)))) (some (.inl (stHd (numF d7.1 d7.2).1 most (openQ (oS d6) d6.snd.snd.snd.fst d6.snd.snd.snd.snd.fst d6.snd.snd.snd.snd.snd).1 ((k : Int) + 1))))) := by
    intro b nm hb hn
    refine oK_fsq openRS (s.1, s.2.1, s.2.2, c, q, nm) ⟨sok_of h, by show nm.length ≤ 1000; omega⟩ ?_
    exact tl b (openF s c q nm).1 hb (inv_open h hq).1 (ep_open s c q nm)
  have nm_ : ∀ b : Picks_T, pkOk b → (nameF b).2.length ≤ 9 := fun b _ => nameF_len b
  refine bK_iq (fun _ => ?_) (fun _ => bK_iq (fun _ => ?_) (fun _ => bK_iq (fun _ => ?_) (fun _ => bK_iq (fun _ => ?_) (fun _ => bK_iq (fun _ => ?_) (fun _ => ?_)))))
  · refine oK_msq nameS z3.1 () p3 ?_
    exact open_ (nameF z3.1).1 (nameF z3.1).2 (nameF_ok p3) (nameF_len _)
  · refine oK_msq nameS z3.1 () p3 ?_
    exact open_ (nameF z3.1).1 (nameF z3.1).2 (nameF_ok p3) (nameF_len _)
  · refine oK_msq nameS z3.1 () p3 ?_
    exact open_ (nameF z3.1).1 (nameF z3.1).2 (nameF_ok p3) (nameF_len _)
  · refine oK_msq numS z3.1 (7 : Int) p3 ?_
    have p4 := numF_ok (m := 7) p3
    refine oK_msq writesS (numF z3.1 7).1 (5 : Int) ⟨p4, by decide, by decide⟩ ?_
    have p5 := writesF_ok (most := 5) p4
    have l5 := writesF_le p4
    simp only
    generalize writesF (numF z3.1 7).1 5 = z5 at p5 l5 ⊢
    obtain ⟨b5, x5, w5⟩ := z5
    refine oK_fsq flushRS (s.1, s.2.1, s.2.2, c, q, IntKind.i64.wrap (1 + (numF z3.1 7).2), (x5, w5)) ⟨sok2_of h, l5⟩ ?_
    exact tl b5 (flushF s c q _ w5).1 p5 (inv_flush h hq).1 (ep_flush s c q _ w5)
  · refine oK_msq numS z3.1 (7 : Int) p3 ?_
    have p4 := numF_ok (m := 7) p3
    refine oK_msq writesS (numF z3.1 7).1 (5 : Int) ⟨p4, by decide, by decide⟩ ?_
    have p5 := writesF_ok (most := 5) p4
    have l5 := writesF_le p4
    simp only
    generalize writesF (numF z3.1 7).1 5 = z5 at p5 l5 ⊢
    obtain ⟨b5, x5, w5⟩ := z5
    refine oK_fsq flushRS (s.1, s.2.1, s.2.2, c, q, IntKind.i64.wrap (1 + (numF z3.1 7).2), (x5, w5)) ⟨sok2_of h, l5⟩ ?_
    exact tl b5 (flushF s c q _ w5).1 p5 (inv_flush h hq).1 (ep_flush s c q _ w5)
  · refine oK_msq numS z3.1 (7 : Int) p3 ?_
    have p4 := numF_ok (m := 7) p3
    refine oK_fsq goneRS (s.1, s.2.1, s.2.2, c, q, IntKind.i64.wrap (1 + (numF z3.1 7).2)) (sok_of h) ?_
    exact tl (numF z3.1 7).1 (goneF s c q _).1 p4 (inv_gone h hq).1 (ep_gone s c q _)
def stEnd (b : Picks_T) (s : State_T) : St := { fr := [(4, .ptr 64 0 0 0), (5, .ptr 80 0 0 0)], bs := [(64, boxB (Tu.mk State_tfs zS)), (80, boxB (Tu.mk State_tfs s)), (1000000, boxB (Tu.mk Picks_tfs b))], df := [] }
theorem loopsST : (loopsOf 0 (codeOf Try.prog 11)).map (·.1) = [0] := by kernel_rfl
theorem oneST : OneLoops Try.prog 11 := by unfold OneLoops; rw [loopsST]; decide
theorem atST : At 0 (codeOf Try.prog 11) 0 (.loop (bodyAt Try.prog 11 0)) := at_body oneST (by rw [loopsST]; decide)
theorem StInv.mono {k k' : Nat} (hk : k ≤ k') {s : State_T} (h : StInv k s) : StInv k' s := ⟨h.1, h.2.1.mono (by omega), h.2.2.1, by have := h.2.2.2; omega⟩
theorem st_run (most : Int) (hm : most ≤ 30) : ∀ (j k : Nat), (k : Int) + j = most → ∀ (b : Picks_T) (s : State_T), pkOk b → StInv k s → ∀ (m : Nat), j < m → ∃ y : Picks_T × State_T, (pkOk y.1 ∧ StInv (k + j) y.2) ∧ Runs' Try.prog cfg PKv3 11 0 m (stHd b most s k) (.exit 0, stEnd y.1 y.2)
  | 0, k, hk, ((x, l), n), s, hb, hs, m + 1, hlt => by
    refine ⟨(((x, l), n), s), ⟨hb, hs⟩, Runs'.done (lp := LP0) LPok.none atST ((st_s_w x l n most s k).trans ?_)⟩
    unfold st_s_r
    rw [bK_neg (by exact decide_eq_false (by omega))]
    rfl
  | j + 1, k, hk, ((x, l), n), s, hb, hs, m + 1, hlt => by
    by_cases hov : (l.length : Int) ≤ n
    · refine ⟨(((x, l), n), s), ⟨hb, hs.mono (by omega)⟩, Runs'.done (lp := LP0) LPok.none atST ((st_s_w x l n most s k).trans ?_)⟩
      unfold st_s_r
      rw [bK_pos (by exact decide_eq_true (by omega))]
      refine oK_msq (Q := fun z => z = _) overS ((x, l), n) () trivial ?_
      rw [bK_neg (by simpa using hov)]
      rfl
    · obtain ⟨y, ⟨h1, h2⟩, he⟩ := st_step x l n most s k (by omega) hm hb hov hs
      obtain ⟨z, ⟨h3, h4⟩, hr⟩ := st_run most hm j (k + 1) (by omega) y.1 y.2 h1 h2 m (by omega)
      exact ⟨z, ⟨h3, h4.mono (by omega)⟩, Runs'.step (lp := LP0) LPok.none atST ((st_s_w x l n most s k).trans he) hr⟩
abbrev StD : Type := Picks_T × Int
def stH (d : StD) : St := stHd d.1 d.2 newF 0
def stP (d : StD) : Prop := pkOk d.1 ∧ 0 ≤ d.2 ∧ d.2 ≤ 30
theorem st_ex (d : StD) (h : stP d) : ∃ y : Picks_T × State_T, (pkOk y.1 ∧ StInv 30 y.2) ∧ Runs' Try.prog cfg PKv3 11 0 rounds (stH d) (.exit 0, stEnd y.1 y.2) := by
  obtain ⟨h1, h2, h3⟩ := h
  obtain ⟨y, ⟨h4, h5⟩, h6⟩ := st_run d.2 h3 d.2.toNat 0 (by omega) d.1 newF h1 inv_new rounds (by simp only [rounds]; omega)
  exact ⟨y, ⟨h4, h5.mono (by omega)⟩, h6⟩
/-- What lasts, behind some. -/
noncomputable def stR (d : StD) : Picks_T × State_T := open Classical in if h : stP d then Classical.choose (st_ex d h) else (d.1, newF)
theorem stR_spec (d : StD) (h : stP d) : (pkOk (stR d).1 ∧ StInv 30 (stR d).2) ∧ Runs' Try.prog cfg PKv3 11 0 rounds (stH d) (.exit 0, stEnd (stR d).1 (stR d).2) := by
  unfold stR
  rw [dif_pos h]
  exact Classical.choose_spec (st_ex d h)
noncomputable def stL : LP := LP.of (D := StD) stH stP fun d => .leaf (.exit 0, stEnd (stR d).1 (stR d).2)
noncomputable def LPst : LPs := LPs.add LP0 11 0 stL
theorem LPst_ok : LPok Try.prog cfg PKv3 LPst 11 := LPok.addH LPok.none oneST fun d h => (stR_spec d h).2
theorem stH_inj (d d' : StD) (h : stH d = stH d') : d = d' := by
  obtain ⟨b, m⟩ := d
  obtain ⟨b', m'⟩ := d'
  simp only [stH, stHd, boxB, St.mk.injEq, List.cons.injEq, Prod.mk.injEq, AV.int.injEq, Blk.mk.injEq, and_true, true_and] at h
  rw [h.1, mk_inj (fs := Picks_tfs) rfl h.2]
abbrev stateP_id : Nat := 11
abbrev stateP_sh : Shp := [none]
abbrev stateP_fs : List Lf := [.fi .i64]
abbrev stateP_bs : List Lf := [.fl false [.fi .u8], .fi .i64]
abbrev stateP_rsh : Shp := [some 3]
abbrev stateP_rfs : List Lf := [.fl true File_tfs, .fl true Mark_tfs, .fi .i64]
noncomputable def stateP_r (p_l_x : Bool) (p_l : List Int) (p_n : Int) (most : Int) : Option Ret :=
  oK (newSS.dec [] []) fun (d0 : PUnit) =>
  oK (stL.dec { fr := [(0, AV.ptr 1000000 0 0 0), (1, AV.int IntKind.i64 most), (4, AV.ptr 64 0 0 0), (5, AV.ptr 80 0 0 0), (6, AV.int IntKind.i64 0)], bs := [(64, { v := 0, k := BK.box, fz := false, sz := 0, es := [AV.slc true [], AV.slc true [], AV.int IntKind.i64 0] }), (80, { v := 0, k := BK.box, fz := false, sz := 0, es := [AV.slc false [AV.agg [AV.str [], AV.int IntKind.i64 0, AV.str []], AV.agg [AV.str [], AV.int IntKind.i64 0, AV.str []], AV.agg [AV.str [], AV.int IntKind.i64 0, AV.str []], AV.agg [AV.str [], AV.int IntKind.i64 0, AV.str []], AV.agg [AV.str [], AV.int IntKind.i64 0, AV.str []], AV.agg [AV.str [], AV.int IntKind.i64 0, AV.str []]], AV.slc false [AV.agg [AV.int IntKind.i64 0, AV.int IntKind.i64 0, AV.int IntKind.i64 0, AV.int IntKind.i64 0], AV.agg [AV.int IntKind.i64 0, AV.int IntKind.i64 0, AV.int IntKind.i64 0, AV.int IntKind.i64 0], AV.agg [AV.int IntKind.i64 0, AV.int IntKind.i64 0, AV.int IntKind.i64 0, AV.int IntKind.i64 0]], AV.int IntKind.i64 newF.snd.snd] }), (1000000, { v := 0, k := BK.box, fz := false, sz := 0, es := [AV.slc p_l_x (List.map (mkV false [Lf.fi IntKind.u8]) p_l), AV.int IntKind.i64 p_n] })], df := [] }) fun (d1 : ((Bool × List Int) × Int) × Int) =>
    some { pan := false, res := AV.agg [AV.slc (stR d1).snd.fst.fst (List.map (mkV true File_tfs) (stR d1).snd.fst.snd), AV.slc (stR d1).snd.snd.fst.fst (List.map (mkV true Mark_tfs) (stR d1).snd.snd.fst.snd), AV.int IntKind.i64 (stR d1).snd.snd.snd], out := [{ v := 0, k := BK.box, fz := false, sz := 0, es := [AV.slc (stR d1).fst.fst.fst (List.map (mkV false [Lf.fi IntKind.u8]) (stR d1).fst.fst.snd), AV.int IntKind.i64 (stR d1).fst.snd] }], new := [] }
theorem stateP_w (p_l_x : Bool) (p_l : List Int) (p_n : Int) (most : Int) : unitQ Try.prog cfg PKv3 LPst false 11 (.ptr outBase 0 0 0 :: groupA stateP_sh (Tu.mk stateP_fs most)) [boxB (Tu.mk stateP_bs ((p_l_x, p_l), p_n))] = stateP_r p_l_x p_l p_n most := by kernel_rfl

noncomputable def statePS : MS := ⟨stateP_bs, stateP_sh, stateP_fs, stateP_rsh, stateP_rfs, fun b most => pkOk b ∧ 0 ≤ (most : Int) ∧ (most : Int) ≤ 30, fun b most => stR (b, most), none⟩
theorem stateP_v (p_l_x : Bool) (p_l : List Int) (p_n : Int) (most : Int) (h : statePS.pre ((p_l_x, p_l), p_n) most) : stateP_r p_l_x p_l p_n most = some (statePS.ret ((p_l_x, p_l), p_n) most) := by
  unfold stateP_r
  refine oK_fsq (Q := fun z => z = _) newSS () trivial ?_
  exact oK_lpq (Q := fun z => z = _) stH_inj (((p_l_x, p_l), p_n), most) h rfl
theorem stateP_ok : ∀ (b : Tu stateP_bs) (d : Tu stateP_fs), statePS.pre b d → unitQ Try.prog cfg PKv3 LPst false 11 (statePS.args d) (statePS.out0 b) = some (statePS.ret b d)
  | ((p_l_x, p_l), p_n), most, h => (stateP_w p_l_x p_l p_n most).trans (stateP_v p_l_x p_l p_n most h)
noncomputable def PKst : PKs := PKv3.add 11 statePS.pk
theorem PKst_ok : PKsOk Try.prog PKst := PKsOk.ms (cfg := cfg) PKv3_ok (fnOk PKv3_ok 21) 11 rfl LPst (LPst_ok.loops) statePS stateP_ok

end Go.Proofs.Ytihgfpggdkhhaaa
