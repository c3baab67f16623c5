/- A part of the proof: contracts of functions. -/
import Derived.Test.YtkanmigbbpppnaaTw
import Derived.Test.YtkanmigbbpppnaaAbAny

set_option linter.unusedVariables false
set_option linter.unusedSimpArgs false
set_option maxRecDepth 100000
namespace Go.Proofs.Ytkanmigbbpppnaa
open Go Go.Ab
abbrev dropo2w_id : Nat := 55
abbrev dropo2w_sh : Shp := [none, none]
abbrev dropo2w_fs : List Lf := [.fl true Wait_tfs, .fi .i64]
abbrev dropo2w_rsh : Shp := [none]
abbrev dropo2w_rfs : List Lf := [.fl true Wait_tfs]
noncomputable def dropo2w_r (l_x : Bool) (l : List Wait_T) (client : Int) : Option Ret :=
 oK (drLw.dec (sf [(0, sl l_x l), (1, i6 client), (5, .slc true []), (6, i6 0)] [])) fun (d0 : LW × Int) => bK (drFw d0).isEmpty (some (rt (.slc true []))) (some { pan := false, res := .sref 2000000 0 0 (mW (drFw d0)).length, out := [], new := [(rw4 (drFw d0))] })
theorem dropo2w_w (l_x : Bool) (l : List Wait_T) (client : Int) : unitQ Try.prog cfg PKz drPw true 55 (groupA dropo2w_sh (Tu.mk dropo2w_fs ((l_x, l), client))) [] = dropo2w_r l_x l client := by kernel_rfl

def dropQw (l : List Wait_T) (c : Int) : List Wait_T := dropFw l c
noncomputable def dropoSw : FS := ⟨dropo2w_sh, dropo2w_fs, dropo2w_rsh, dropo2w_rfs, fun d => d.1.2.length ≤ 100000, fun d => (true, dropQw d.1.2 d.2), some (0, 4)⟩
noncomputable def PKtw : PKs := PKz.add 55 dropoSw.pk
def prhw (x : Bool) (l : List Wait_T) (w : Wait_T) (i : Int) : St := { fr := [(0, AV.slc x (List.map (mkV true Wait_tfs) l)), (3, AV.ptr 48 0 0 0), (6, AV.int IntKind.i64 i)], bs := [(48, boxB (Tu.mk Wait_tfs w))], df := [] }
noncomputable def pr_sw (x : Bool) (l : List Wait_T) (w : Wait_T) (i : Int) : Option (St ⊕ (Ex × St)) := stepK Try.prog cfg PKtw LP0 41 0 (prhw x l w i)
noncomputable def pr_sw_r (x : Bool) (l : List Wait_T) (w : Wait_T) (i : Int) : Option (St ⊕ Ex × St) :=
 bK (decide (i < (↑(mW l).length : Int)))
 (oK (elemAt true Wait_tfs (mW l) i) fun (d0 : Int × Int × Int × Int) =>
 bK (decide (d0.1 = w.1))
 (oK (elemAt true Wait_tfs (mW l) i) fun (d1 : Int × Int × Int × Int) =>
 bK (decide (d1.2.2.1 = w.2.2.1)) (bK ((mW l).all fun (y : AV) => decide (y.cells.length = 4)) (bK (mW l).isEmpty (bK (decide (0 ≤ i ∧ i < 0)) none none) (bK (true && bytesFit Try.prog 25 (0 + (mW l).length)) (bK (decide (0 ≤ i ∧ i < (↑(0 + (mW l).length) : Int))) (oK (stRow ([] ++ mW l) (0 + i.toNat) 0 [i6 w.1, i6 w.2.1, i6 w.2.2.1, i6 w.2.2.2]) fun (d2 : List AV) => some (.inr (.ret, (sf [(0, sl x l), (3, pt 48), (4, .sref 560 0 0 (0 + (mW l).length)), (5, .bool true)] [(48, (bx [i6 w.1, i6 w.2.1, i6 w.2.2.1, i6 w.2.2.2])), (528, { v := 0, k := .dead, fz := false, sz := 4, es := [] }), (560, { v := 0, k := .row, fz := false, sz := 4, es := d2 })])))) none) none)) none) (some (.inl (sf [(0, sl x l), (3, pt 48), (6, i6 (IntKind.i64.wrap (i + 1)))] [(48, (bx [i6 w.1, i6 w.2.1, i6 w.2.2.1, i6 w.2.2.2]))]))))
 (some (.inl (sf [(0, sl x l), (3, pt 48), (6, i6 (IntKind.i64.wrap (i + 1)))] [(48, (bx [i6 w.1, i6 w.2.1, i6 w.2.2.1, i6 w.2.2.2]))]))))
 (some (.inr (.exit 0, (sf [(0, sl x l), (3, pt 48)] [(48, (bx [i6 w.1, i6 w.2.1, i6 w.2.2.1, i6 w.2.2.2]))]))))
theorem pr_sw_w (x : Bool) (l : List Wait_T) (w : Wait_T) (i : Int) : pr_sw x l w i = pr_sw_r x l w i := by kernel_rfl

abbrev PrDw : Type := (Bool × List Wait_T) × Wait_T
def wantPw (w : Wait_T) : Wait_T → Bool := fun v => decide (v.1 = w.1) && decide (v.2.2.1 = w.2.2.1)
def prBw (d : PrDw) : Bool := decide (0 ≤ firstN (wantPw d.2) d.1.2 0)
def prFw (d : PrDw) : List Wait_T := d.1.2.set (firstN (wantPw d.2) d.1.2 0).toNat d.2
def prYw (x : Bool) (l : List Wait_T) (w : Wait_T) (m : List Wait_T) : St := { fr := [(0, .slc x (l.map (mkV true Wait_tfs))), (3, .ptr 48 0 0 0), (4, .sref 560 0 0 (m.map (mkV true Wait_tfs)).length), (5, .bool true)], bs := [(48, boxB (Tu.mk Wait_tfs w)), (528, { v := 0, k := .dead, fz := false, sz := 4, es := [] }), (560, { v := 0, k := .row, fz := false, sz := 4, es := m.map (mkV true Wait_tfs) })], df := [] }
def prNw (x : Bool) (l : List Wait_T) (w : Wait_T) : St := { fr := [(0, .slc x (l.map (mkV true Wait_tfs))), (3, .ptr 48 0 0 0)], bs := [(48, boxB (Tu.mk Wait_tfs w))], df := [] }
def prHw (d : PrDw) : St := prhw d.1.1 d.1.2 d.2 0
noncomputable def prLw : LP := LP.of prHw (fun d => d.1.2.length ≤ 100000) fun d => .ite (prBw d) (.leaf (.ret, prYw d.1.1 d.1.2 d.2 (prFw d))) (.leaf (.exit 0, prNw d.1.1 d.1.2 d.2))
noncomputable def prPw : LPs := LPs.add LP0 41 0 prLw
abbrev putRw_id : Nat := 41
abbrev putRw_sh : Shp := [none, some 4]
abbrev putRw_fs : List Lf := [.fl true Wait_tfs, .fi .i64, .fi .i64, .fi .i64, .fi .i64]
abbrev putRw_rsh : Shp := [none, none]
abbrev putRw_rfs : List Lf := [.fl true Wait_tfs, .fb]
noncomputable def putRw_r (l_x : Bool) (l : List Wait_T) (w_Client : Int) (w_Seq : Int) (w_File : Int) (w_Mode : Int) : Option Ret :=
 oK (prLw.dec (sf [(0, sl l_x l), (3, pt 48), (6, i6 0)] [(48, (bx [i6 w_Client, i6 w_Seq, i6 w_File, i6 w_Mode]))])) fun (d0 : LW × Int × Int × Int × Int) =>
 bK (prBw d0) (bK (decide (0 + (mW (prFw d0)).length ≤ (mW (prFw d0)).length)) (some (rt (.tup [.slc false (List.take (mW (prFw d0)).length (List.drop 0 (mW (prFw d0)))), .bool true]))) none)
 (oK (dropoSw.dec [sl d0.1.1 d0.1.2, i6 d0.2.1] []) fun (d1 : LW × Int) =>
 bK (mW (dropQw d1.1.2 d1.2)).isEmpty (some (rt (.tup [.slc false [AV.agg [i6 d0.2.1, i6 d0.2.2.1, i6 d0.2.2.2.1, i6 d0.2.2.2.2]], .bool true])))
 (bK (decide (0 + (mW (dropQw d1.1.2 d1.2)).length ≤ (mW (dropQw d1.1.2 d1.2)).length))
 (bK (decide (4 ≤ (↑(mW (dropQw d1.1.2 d1.2)).length : Int))) (some (rt (.tup [sl d0.1.1 d0.1.2, .bool false])))
 (bK (decide (0 + (mW (dropQw d1.1.2 d1.2)).length ≤ (mW (dropQw d1.1.2 d1.2)).length)) (bK (decide (0 = 0 ∧ (mW (dropQw d1.1.2 d1.2)).length = (mW (dropQw d1.1.2 d1.2)).length) && bytesFit Try.prog 25 ((mW (dropQw d1.1.2 d1.2)).length + 1)) (bK (decide (0 + ((mW (dropQw d1.1.2 d1.2)).length + 1) ≤ (List.take (mW (dropQw d1.1.2 d1.2)).length (mW (dropQw d1.1.2 d1.2)) ++ [AV.agg [i6 d0.2.1, i6 d0.2.2.1, i6 d0.2.2.2.1, i6 d0.2.2.2.2]]).length)) (some (rt (.tup [.slc false (List.take ((mW (dropQw d1.1.2 d1.2)).length + 1) (List.drop 0 (List.take (mW (dropQw d1.1.2 d1.2)).length (mW (dropQw d1.1.2 d1.2)) ++ [AV.agg [i6 d0.2.1, i6 d0.2.2.1, i6 d0.2.2.2.1, i6 d0.2.2.2.2]]))), .bool true]))) none) none) none))
 none))
theorem putRw_w (l_x : Bool) (l : List Wait_T) (w_Client : Int) (w_Seq : Int) (w_File : Int) (w_Mode : Int) : unitQ Try.prog cfg PKtw prPw false 41 (groupA putRw_sh (Tu.mk putRw_fs ((l_x, l), w_Client, w_Seq, w_File, w_Mode))) [] = putRw_r l_x l w_Client w_Seq w_File w_Mode := by kernel_rfl

theorem PKt_okw : PKsOk Try.prog PKtw := PKsOk.anyF PKz_ok 55 dropoSw (by
 rintro ⟨⟨x, l⟩, c⟩ h
 have h' : l.length ≤ 100000 := h
 refine CallOk.unit (fnOk PKz_ok 21) rfl drP_okw.loops (o := true) (by show 0 ≤ 1000; decide) ((dropo2w_w x l c).trans ?_)
 unfold dropo2w_r
 refine oK_lpq (Q := (· = _)) drH_injw ((x, l), c) h' ?_
 have e : drFw ((x, l), c) = dropFw l c := rfl
 rw [e]
 refine Eq.trans ?_ (congrArg some (own_one (sz := 4) (x := true) (l := dropFw l c) (f := mkV true Wait_tfs) (out := [])).symm)
 cases hd : dropFw l c with
 | nil => rfl
 | cons a r =>
  refine bK_fq (Q := (· = _)) rfl ?_
  rw [if_neg (by simp), List.length_map]
  rfl)
theorem prlw : (loopsOf 0 (codeOf Try.prog 41)).map (·.1) = [0] := by kernel_rfl
theorem prow : OneLoops Try.prog 41 := by unfold OneLoops; rw [prlw]; decide
theorem praw : At 0 (codeOf Try.prog 41) 0 (.loop (bodyAt Try.prog 41 0)) := at_body prow (by rw [prlw]; decide)
theorem ne_empw {l : List Wait_T} {i : Nat} (h : i < l.length) : (l.map (mkV true Wait_tfs)).isEmpty = false := by
 cases l with
 | nil => simp at h
 | cons a r => rfl
def prXw (x : Bool) (l : List Wait_T) (w : Wait_T) (k : Int) : Ex × St := if 0 ≤ k then (.ret, prYw x l w (l.set k.toNat w)) else (.exit 0, prNw x l w)
theorem pr_runw (x : Bool) (l : List Wait_T) (w : Wait_T) (hl : l.length ≤ 100000) : ∀ (j i : Nat), i + j = l.length → ∀ (m : Nat), j < m → Runs' Try.prog cfg PKtw 41 0 m (prhw x l w i) (prXw x l w (firstN (wantPw w) (l.drop i) i))
 | 0, i, hi, m + 1, hm => by
  rw [List.drop_of_length_le (by omega)]
  refine Runs'.done (lp := LP0) LPok.none praw ((pr_sw_w x l w i).trans ?_)
  unfold pr_sw_r
  rw [bK_neg (by simp; omega)]
  rfl
 | j + 1, i, hi, m + 1, hm => by
  have hi' : i < l.length := by omega
  have e : l.drop i = l[i] :: l.drop (i + 1) := List.drop_eq_getElem_cons hi'
  have e2 : l.getD (i : Int).toNat (0, 0, 0, 0) = l[i] := by rw [Int.toNat_natCast, getD_at hi']
  have at_ : ∀ {Q : Option (St ⊕ (Ex × St)) → Prop} {k : Wait_T → Option (St ⊕ (Ex × St))}, Q (k l[i]) → Q (oK (elemAt true Wait_tfs (l.map (mkV true Wait_tfs)) i) k) := fun hk => oK_atq (fs := Wait_tfs) (0, 0, 0, 0) (by omega) (by simpa using hi') (by rw [e2]; exact hk)
  have e1 : IntKind.i64.wrap ((i : Int) + 1) = ((i + 1 : Nat) : Int) := by rw [w64 (by omega) (by omega)]; omega
  rw [e, firstN]
  by_cases h : wantPw w l[i] = true
  ·rw [if_pos h]
   have h1 : l[i].1 = w.1 ∧ l[i].2.2.1 = w.2.2.1 := by simpa [wantPw] using h
   have : prXw x l w (i : Int) = (.ret, prYw x l w (l.set i w)) := by
    unfold prXw
    rw [if_pos (by omega), Int.toNat_natCast]
   rw [this]
   refine Runs'.done (lp := LP0) LPok.none praw ((pr_sw_w x l w i).trans ?_)
   unfold pr_sw_r
   rw [bK_pos (by simp; omega)]
   refine at_ (Q := (· = _)) ?_
   rw [bK_pos (decide_eq_true h1.1)]
   refine at_ (Q := (· = _)) ?_
   rw [bK_pos (decide_eq_true h1.2), bK_pos (by simp [AV.cells, mkV, mkA, Tu.mk]), bK_neg (ne_empw hi')]
   rw [bK_pos (by rw [Bool.true_and]; exact drfitw (by simp; omega)), bK_pos (by simp; omega)]
   rw [List.nil_append, Nat.zero_add, Int.toNat_natCast]
   refine (oK_pos (stRow_map (fs := Wait_tfs) l i hi' w)).trans ?_
   unfold prYw
   rw [Nat.zero_add, show ((l.set i w).map (mkV true Wait_tfs)).length = (l.map (mkV true Wait_tfs)).length by simp]
   rfl
  ·rw [if_neg h]
   refine Runs'.step (lp := LP0) LPok.none praw ((pr_sw_w x l w i).trans ?_) (pr_runw x l w hl j (i + 1) (by omega) m (by omega))
   unfold pr_sw_r
   rw [bK_pos (by simp; omega), e1]
   refine at_ (Q := (· = _)) ?_
   refine bK_i (fun c1 => ?_) (fun c1 => rfl)
   refine at_ (Q := (· = _)) ?_
   rw [bK_neg (decide_eq_false (fun c2 => h (by simp [wantPw, c1, c2])))]
   rfl
theorem prP_okw : LPok Try.prog cfg PKtw prPw 41 := LPok.addH LPok.none prow (by
 rintro ⟨⟨x, l⟩, w⟩ h
 have h2 : l.length ≤ 100000 := h
 have hr : Runs' Try.prog cfg PKtw 41 0 rounds (prHw ((x, l), w)) (prXw x l w (firstN (wantPw w) l 0)) := by
  have := pr_runw x l w h2 l.length 0 (by omega) rounds (by simp only [rounds]; omega)
  rw [List.drop_zero] at this
  exact this
 have e1 : prBw ((x, l), w) = decide (0 ≤ firstN (wantPw w) l 0) := rfl
 have e2 : prFw ((x, l), w) = l.set (firstN (wantPw w) l 0).toNat w := rfl
 simp only [Alt.val, e1, e2]
 unfold prXw at hr
 by_cases hq : 0 ≤ firstN (wantPw w) l 0
 ·rw [if_pos hq] at hr; rw [decide_eq_true hq]; exact hr
 ·rw [if_neg hq] at hr; rw [decide_eq_false hq]; exact hr)
theorem prH_injw (d d' : PrDw) (h : prHw d = prHw d') : d = d' := by
 obtain ⟨⟨x, l⟩, w⟩ := d
 obtain ⟨⟨x', l'⟩, w'⟩ := d'
 simp only [prHw, prhw, boxB, St.mk.injEq, List.cons.injEq, Prod.mk.injEq, AV.slc.injEq, Blk.mk.injEq, and_true, true_and] at h
 have e1 := map_inj (fs := Wait_tfs) rfl h.1.2
 have e2 := mk_inj (fs := Wait_tfs) rfl h.2
 rw [h.1.1, e1, e2]
def putRFw (l : List Wait_T) (w : Wait_T) : List Wait_T × Bool :=
 if 0 ≤ firstN (wantPw w) l 0 then (l.set (firstN (wantPw w) l 0).toNat w, true)
 else if 4 ≤ (dropFw l w.1).length then (l, false) else (dropFw l w.1 ++ [w], true)
def putRQw (l : List Wait_T) (w : Wait_T) : List Wait_T × Bool := putRFw l w
def putRXw (x : Bool) (l : List Wait_T) (w : Wait_T) : Bool := x && !(putRFw l w).2
noncomputable def putRSw : FS := ⟨putRw_sh, putRw_fs, putRw_rsh, putRw_rfs, fun d => d.1.2.length ≤ 100000, fun d => ((putRXw d.1.1 d.1.2 d.2, (putRQw d.1.2 d.2).1), (putRQw d.1.2 d.2).2), none⟩
theorem putREndw (K : List Wait_T) (w : Wait_T) : some ({ pan := false, res := .tup [.slc false (K.map (mkV true Wait_tfs) ++ [.agg [.int .i64 w.1, .int .i64 w.2.1, .int .i64 w.2.2.1, .int .i64 w.2.2.2]]), .bool true], out := [], new := [] } : Ret) = some (putRSw.out ((false, K ++ [w]), true)) := by
 have e : (K ++ [w]).map (mkV true Wait_tfs) = K.map (mkV true Wait_tfs) ++ [.agg [.int .i64 w.1, .int .i64 w.2.1, .int .i64 w.2.2.1, .int .i64 w.2.2.2]] := by rw [List.map_append]; rfl
 show _ = some ({ pan := false, res := .tup [.slc false ((K ++ [w]).map (mkV true Wait_tfs)), .bool true], out := [], new := [] } : Ret)
 rw [e]
theorem putROw : ∀ d : Tu putRSw.fs, putRSw.pre d → CallOk Try.prog 41 (putRSw.args d) [] (putRSw.ret d) := by
 rintro ⟨⟨x, l⟩, w⟩ h
 have h' : l.length ≤ 100000 := h
 refine CallOk.unit (fnOk PKt_okw 21) rfl prP_okw.loops (o := false) (by show 0 ≤ 1000; decide) ((putRw_w x l w.1 w.2.1 w.2.2.1 w.2.2.2).trans ?_)
 show _ = some (putRSw.out ((x && !(putRFw l w).2, (putRFw l w).1), (putRFw l w).2))
 have hle := dropF_lew l w.1
 unfold putRw_r
 refine oK_lpq (Q := (· = _)) prH_injw ((x, l), w) h' ?_
 have e1 : prBw ((x, l), w) = decide (0 ≤ firstN (wantPw w) l 0) := rfl
 have e2 : prFw ((x, l), w) = l.set (firstN (wantPw w) l 0).toNat w := rfl
 rw [e1, e2]
 refine bK_i (fun c1 => ?_) (fun c1 => ?_)
 ·have rest : putRFw l w = (l.set (firstN (wantPw w) l 0).toNat w, true) := by unfold putRFw; rw [if_pos c1]
  rw [rest, bK_pos (by simp), List.drop_zero, List.take_length]
  cases x <;> rfl
 ·have rest : putRFw l w = if 4 ≤ (dropFw l w.1).length then (l, false) else (dropFw l w.1 ++ [w], true) := by unfold putRFw; rw [if_neg c1]
  refine oK_fsq (Q := (· = _)) dropoSw ((x, l), w.1) h' ?_
  have hq : dropQw l w.1 = dropFw l w.1 := rfl
  simp only [hq, List.length_map]
  cases hd : dropFw l w.1 with
  | nil =>
   rw [hd] at rest
   rw [rest, if_neg (by simp)]
   refine bK_tq (Q := (· = _)) rfl ?_
   cases x <;> rfl
  | cons a r =>
   rw [← hd]
   have hne : ((dropFw l w.1).map (mkV true Wait_tfs)).isEmpty = false := by rw [hd]; rfl
   refine bK_fq (Q := (· = _)) hne (bK_tq (Q := (· = _)) (by simp) ?_)
   refine bK_i (fun c2 => ?_) (fun c2 => ?_)
   ·rw [rest, if_pos (by omega)]
    cases x <;> rfl
   ·rw [rest, if_neg (by omega), bK_pos (by simp), bK_pos (by simp only [true_and, decide_true, Bool.true_and]; exact drfitw (by omega)), bK_pos (by simp)]
    have eZ : List.take (dropFw l w.1).length ((dropFw l w.1).map (mkV true Wait_tfs)) = (dropFw l w.1).map (mkV true Wait_tfs) := by rw [List.take_of_length_le (by simp)]
    rw [app_end _ _ _ (by simp), eZ, Bool.not_true, Bool.and_false]
    exact putREndw _ _

end Go.Proofs.Ytkanmigbbpppnaa
