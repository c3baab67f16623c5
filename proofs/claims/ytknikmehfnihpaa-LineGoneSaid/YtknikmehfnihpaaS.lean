/- A part of the proof: contracts of functions. -/
import Derived.Test.YtknikmehfnihpaaT
import Derived.Test.YtknikmehfnihpaaAbAny

set_option linter.unusedVariables false
set_option linter.unusedSimpArgs false
set_option maxRecDepth 100000
namespace Go.Proofs.Ytknikmehfnihpaa
open Go Go.Ab
abbrev dropo2_id : Nat := 11
abbrev dropo2_sh : Shp := [none, none]
abbrev dropo2_fs : List Lf := [.fl true Wait_tfs, .fi .i64]
abbrev dropo2_rsh : Shp := [none]
abbrev dropo2_rfs : List Lf := [.fl true Wait_tfs]
noncomputable def dropo2_r (l_x : Bool) (l : List Wait_T) (client : Int) : Option Ret :=
  oK (drL.dec { fr := [(0, AV.slc l_x (List.map (mkV true Wait_tfs) l)), (1, AV.int IntKind.i64 client), (5, AV.slc true []), (6, AV.int IntKind.i64 0)], bs := [], df := [] }) fun (d0 : (Bool × List (Int × Int × Int × Int)) × Int) => bK (drF d0).isEmpty (some { pan := false, res := AV.slc true [], out := [], new := [] }) (some { pan := false, res := AV.sref 2000000 0 0 (List.map (mkV true Wait_tfs) (drF d0)).length, out := [], new := [{ v := 0, k := BK.row, fz := false, sz := 4, es := List.map (mkV true Wait_tfs) (drF d0) }] })
theorem dropo2_w (l_x : Bool) (l : List Wait_T) (client : Int) : unitQ Try.prog cfg PKz drP true 11 (groupA dropo2_sh (Tu.mk dropo2_fs ((l_x, l), client))) [] = dropo2_r l_x l client := by kernel_rfl

def dropQ (l : List Wait_T) (c : Int) : List Wait_T := dropF l c
noncomputable def dropoS : FS := ⟨dropo2_sh, dropo2_fs, dropo2_rsh, dropo2_rfs, fun d => d.1.2.length ≤ 100000, fun d => (true, dropQ d.1.2 d.2), some (0, 4)⟩
noncomputable def PKt : PKs := PKz.add 11 dropoS.pk
def prh (x : Bool) (l : List Wait_T) (w : Wait_T) (i : Int) : St := { fr := [(0, AV.slc x (List.map (mkV true Wait_tfs) l)), (3, AV.ptr 48 0 0 0), (6, AV.int IntKind.i64 i)], bs := [(48, boxB (Tu.mk Wait_tfs w))], df := [] }
noncomputable def pr_s (x : Bool) (l : List Wait_T) (w : Wait_T) (i : Int) : Option (St ⊕ (Ex × St)) := stepK Try.prog cfg PKt LP0 9 0 (prh x l w i)
noncomputable def pr_s_r (x : Bool) (l : List Wait_T) (w : Wait_T) (i : Int) : Option (St ⊕ Ex × St) :=
  bK (decide (i < (↑(List.map (mkV true Wait_tfs) l).length : Int)))
  (oK (elemAt true Wait_tfs (List.map (mkV true Wait_tfs) l) i) fun (d0 : Int × Int × Int × Int) =>
    bK (decide (d0.fst = w.fst))
      (oK (elemAt true Wait_tfs (List.map (mkV true Wait_tfs) l) i) fun (d1 : Int × Int × Int × Int) =>
        bK (decide (d1.snd.snd.fst = w.snd.snd.fst))
          (bK ((List.map (mkV true Wait_tfs) l).all fun (y : AV) => decide (y.cells.length = 4))
            (bK (List.map (mkV true Wait_tfs) l).isEmpty (bK (decide (0 ≤ i ∧ i < 0)) none none)
              (bK (true && bytesFit Try.prog 24 (0 + (List.map (mkV true Wait_tfs) l).length)) (bK (decide (0 ≤ i ∧ i < (↑(0 + (List.map (mkV true Wait_tfs) l).length) : Int))) (oK (stRow ([] ++ List.map (mkV true Wait_tfs) l) (0 + i.toNat) 0 [AV.int IntKind.i64 w.fst, AV.int IntKind.i64 w.snd.fst, AV.int IntKind.i64 w.snd.snd.fst, AV.int IntKind.i64 w.snd.snd.snd]) fun (d2 : List AV) => some (Sum.inr (Ex.ret, { fr := [(0, AV.slc x (List.map (mkV true Wait_tfs) l)), (3, AV.ptr 48 0 0 0), (4, AV.sref 560 0 0 (0 + (List.map (mkV true Wait_tfs) l).length)), (5, AV.bool true)], bs := [(48, { v := 0, k := BK.box, fz := false, sz := 0, es := [AV.int IntKind.i64 w.fst, AV.int IntKind.i64 w.snd.fst, AV.int IntKind.i64 w.snd.snd.fst, AV.int IntKind.i64 w.snd.snd.snd] }), (528, { v := 0, k := BK.dead, fz := false, sz := 4, es := [] }), (560, { v := 0, k := BK.row, fz := false, sz := 4, es := d2 })], df := [] }))) none)
                (bK (decide (0 + (List.map (mkV true Wait_tfs) l).length ≤ 0)) (bK (decide (0 ≤ i ∧ i < (↑(0 + (List.map (mkV true Wait_tfs) l).length) : Int))) (oK (stRow ([] ++ (List.map (mkV true Wait_tfs) l ++ List.drop (0 + (List.map (mkV true Wait_tfs) l).length) [])) (0 + i.toNat) 0 [AV.int IntKind.i64 w.fst, AV.int IntKind.i64 w.snd.fst, AV.int IntKind.i64 w.snd.snd.fst, AV.int IntKind.i64 w.snd.snd.snd]) fun (d3 : List AV) => some (Sum.inr (Ex.ret, { fr := [(0, AV.slc x (List.map (mkV true Wait_tfs) l)), (3, AV.ptr 48 0 0 0), (4, AV.sref 528 0 0 (0 + (List.map (mkV true Wait_tfs) l).length)), (5, AV.bool true)], bs := [(48, { v := 0, k := BK.box, fz := false, sz := 0, es := [AV.int IntKind.i64 w.fst, AV.int IntKind.i64 w.snd.fst, AV.int IntKind.i64 w.snd.snd.fst, AV.int IntKind.i64 w.snd.snd.snd] }), (528, { v := 0, k := BK.row, fz := false, sz := 4, es := d3 })], df := [] }))) none) none)))
            none)
          (some (Sum.inl { fr := [(0, AV.slc x (List.map (mkV true Wait_tfs) l)), (3, AV.ptr 48 0 0 0), (6, AV.int IntKind.i64 (IntKind.i64.wrap (i + 1)))], bs := [(48, { v := 0, k := BK.box, fz := false, sz := 0, es := [AV.int IntKind.i64 w.fst, AV.int IntKind.i64 w.snd.fst, AV.int IntKind.i64 w.snd.snd.fst, AV.int IntKind.i64 w.snd.snd.snd] })], df := [] })))
      (some (Sum.inl { fr := [(0, AV.slc x (List.map (mkV true Wait_tfs) l)), (3, AV.ptr 48 0 0 0), (6, AV.int IntKind.i64 (IntKind.i64.wrap (i + 1)))], bs := [(48, { v := 0, k := BK.box, fz := false, sz := 0, es := [AV.int IntKind.i64 w.fst, AV.int IntKind.i64 w.snd.fst, AV.int IntKind.i64 w.snd.snd.fst, AV.int IntKind.i64 w.snd.snd.snd] })], df := [] })))
  (some (Sum.inr (Ex.exit 0, { fr := [(0, AV.slc x (List.map (mkV true Wait_tfs) l)), (3, AV.ptr 48 0 0 0)], bs := [(48, { v := 0, k := BK.box, fz := false, sz := 0, es := [AV.int IntKind.i64 w.fst, AV.int IntKind.i64 w.snd.fst, AV.int IntKind.i64 w.snd.snd.fst, AV.int IntKind.i64 w.snd.snd.snd] })], df := [] })))
theorem pr_s_w (x : Bool) (l : List Wait_T) (w : Wait_T) (i : Int) : pr_s x l w i = pr_s_r x l w i := by kernel_rfl

abbrev PrD : Type := (Bool × List Wait_T) × Wait_T
/-- Who waits for that file. -/
def wantP (w : Wait_T) : Wait_T → Bool := fun v => decide (v.1 = w.1) && decide (v.2.2.1 = w.2.2.1)
def prB (d : PrD) : Bool := decide (0 ≤ firstN (wantP d.2) d.1.2 0)
def prF (d : PrD) : List Wait_T := d.1.2.set (firstN (wantP d.2) d.1.2 0).toNat d.2
def prY (x : Bool) (l : List Wait_T) (w : Wait_T) (m : List Wait_T) : St := { fr := [(0, .slc x (l.map (mkV true Wait_tfs))), (3, .ptr 48 0 0 0), (4, .sref 560 0 0 (m.map (mkV true Wait_tfs)).length), (5, .bool true)], bs := [(48, boxB (Tu.mk Wait_tfs w)), (528, { v := 0, k := .dead, fz := false, sz := 4, es := [] }), (560, { v := 0, k := .row, fz := false, sz := 4, es := m.map (mkV true Wait_tfs) })], df := [] }
def prN (x : Bool) (l : List Wait_T) (w : Wait_T) : St := { fr := [(0, .slc x (l.map (mkV true Wait_tfs))), (3, .ptr 48 0 0 0)], bs := [(48, boxB (Tu.mk Wait_tfs w))], df := [] }
def prH (d : PrD) : St := prh d.1.1 d.1.2 d.2 0
noncomputable def prL : LP := LP.of prH (fun d => d.1.2.length ≤ 100000) fun d => .ite (prB d) (.leaf (.ret, prY d.1.1 d.1.2 d.2 (prF d))) (.leaf (.exit 0, prN d.1.1 d.1.2 d.2))
noncomputable def prP : LPs := LPs.add LP0 9 0 prL
abbrev putR_id : Nat := 9
abbrev putR_sh : Shp := [none, some 4]
abbrev putR_fs : List Lf := [.fl true Wait_tfs, .fi .i64, .fi .i64, .fi .i64, .fi .i64]
abbrev putR_rsh : Shp := [none, none]
abbrev putR_rfs : List Lf := [.fl true Wait_tfs, .fb]
noncomputable def putR_r (l_x : Bool) (l : List Wait_T) (w_Client : Int) (w_Seq : Int) (w_File : Int) (w_Mode : Int) : Option Ret :=
  oK (prL.dec { fr := [(0, AV.slc l_x (List.map (mkV true Wait_tfs) l)), (3, AV.ptr 48 0 0 0), (6, AV.int IntKind.i64 0)], bs := [(48, { v := 0, k := BK.box, fz := false, sz := 0, es := [AV.int IntKind.i64 w_Client, AV.int IntKind.i64 w_Seq, AV.int IntKind.i64 w_File, AV.int IntKind.i64 w_Mode] })], df := [] }) fun (d0 : (Bool × List (Int × Int × Int × Int)) × Int × Int × Int × Int) =>
  bK (prB d0) (bK (decide (0 + (List.map (mkV true Wait_tfs) (prF d0)).length ≤ (List.map (mkV true Wait_tfs) (prF d0)).length)) (some { pan := false, res := AV.tup [AV.slc false (List.take (List.map (mkV true Wait_tfs) (prF d0)).length (List.drop 0 (List.map (mkV true Wait_tfs) (prF d0)))), AV.bool true], out := [], new := [] }) none)
    (oK (dropoS.dec [AV.slc d0.fst.fst (List.map (mkV true Wait_tfs) d0.fst.snd), AV.int IntKind.i64 d0.snd.fst] []) fun (d1 : (Bool × List (Int × Int × Int × Int)) × Int) =>
      bK (List.map (mkV true Wait_tfs) (dropQ d1.fst.snd d1.snd)).isEmpty (some { pan := false, res := AV.tup [AV.slc false [AV.agg [AV.int IntKind.i64 d0.snd.fst, AV.int IntKind.i64 d0.snd.snd.fst, AV.int IntKind.i64 d0.snd.snd.snd.fst, AV.int IntKind.i64 d0.snd.snd.snd.snd]], AV.bool true], out := [], new := [] })
        (bK (decide (0 + (List.map (mkV true Wait_tfs) (dropQ d1.fst.snd d1.snd)).length ≤ (List.map (mkV true Wait_tfs) (dropQ d1.fst.snd d1.snd)).length))
          (bK (decide (4 ≤ (↑(List.map (mkV true Wait_tfs) (dropQ d1.fst.snd d1.snd)).length : Int))) (some { pan := false, res := AV.tup [AV.slc d0.fst.fst (List.map (mkV true Wait_tfs) d0.fst.snd), AV.bool false], out := [], new := [] })
            (bK (decide (0 + (List.map (mkV true Wait_tfs) (dropQ d1.fst.snd d1.snd)).length ≤ (List.map (mkV true Wait_tfs) (dropQ d1.fst.snd d1.snd)).length))
              (bK (decide (0 = 0 ∧ (List.map (mkV true Wait_tfs) (dropQ d1.fst.snd d1.snd)).length = (List.map (mkV true Wait_tfs) (dropQ d1.fst.snd d1.snd)).length) && bytesFit Try.prog 24 ((List.map (mkV true Wait_tfs) (dropQ d1.fst.snd d1.snd)).length + 1)) (bK (decide (0 + ((List.map (mkV true Wait_tfs) (dropQ d1.fst.snd d1.snd)).length + 1) ≤ (List.take (List.map (mkV true Wait_tfs) (dropQ d1.fst.snd d1.snd)).length (List.map (mkV true Wait_tfs) (dropQ d1.fst.snd d1.snd)) ++ [AV.agg [AV.int IntKind.i64 d0.snd.fst, AV.int IntKind.i64 d0.snd.snd.fst, AV.int IntKind.i64 d0.snd.snd.snd.fst, AV.int IntKind.i64 d0.snd.snd.snd.snd]]).length)) (some { pan := false, res := AV.tup [AV.slc false (List.take ((List.map (mkV true Wait_tfs) (dropQ d1.fst.snd d1.snd)).length + 1) (List.drop 0 (List.take (List.map (mkV true Wait_tfs) (dropQ d1.fst.snd d1.snd)).length (List.map (mkV true Wait_tfs) (dropQ d1.fst.snd d1.snd)) ++ [AV.agg [AV.int IntKind.i64 d0.snd.fst, AV.int IntKind.i64 d0.snd.snd.fst, AV.int IntKind.i64 d0.snd.snd.snd.fst, AV.int IntKind.i64 d0.snd.snd.snd.snd]]))), AV.bool true], out := [], new := [] }) none)
                (bK (decide (0 + (List.map (mkV true Wait_tfs) (dropQ d1.fst.snd d1.snd)).length + 1 ≤ (List.map (mkV true Wait_tfs) (dropQ d1.fst.snd d1.snd)).length)) (bK (decide (0 + ((List.map (mkV true Wait_tfs) (dropQ d1.fst.snd d1.snd)).length + 1) ≤ (List.take (0 + (List.map (mkV true Wait_tfs) (dropQ d1.fst.snd d1.snd)).length) (List.map (mkV true Wait_tfs) (dropQ d1.fst.snd d1.snd)) ++ AV.agg [AV.int IntKind.i64 d0.snd.fst, AV.int IntKind.i64 d0.snd.snd.fst, AV.int IntKind.i64 d0.snd.snd.snd.fst, AV.int IntKind.i64 d0.snd.snd.snd.snd] :: List.append._f [] PUnit.unit (List.drop (0 + (List.map (mkV true Wait_tfs) (dropQ d1.fst.snd d1.snd)).length + 1) (List.map (mkV true Wait_tfs) (dropQ d1.fst.snd d1.snd)))).length)) (some { pan := false, res := AV.tup [AV.slc false (List.take ((List.map (mkV true Wait_tfs) (dropQ d1.fst.snd d1.snd)).length + 1) (List.drop 0 (List.take (0 + (List.map (mkV true Wait_tfs) (dropQ d1.fst.snd d1.snd)).length) (List.map (mkV true Wait_tfs) (dropQ d1.fst.snd d1.snd)) ++ AV.agg [AV.int IntKind.i64 d0.snd.fst, AV.int IntKind.i64 d0.snd.snd.fst, AV.int IntKind.i64 d0.snd.snd.snd.fst, AV.int IntKind.i64 d0.snd.snd.snd.snd] :: List.append._f [] PUnit.unit (List.drop (0 + (List.map (mkV true Wait_tfs) (dropQ d1.fst.snd d1.snd)).length + 1) (List.map (mkV true Wait_tfs) (dropQ d1.fst.snd d1.snd)))))), AV.bool true], out := [], new := [] }) none) none))
              none))
          none))
theorem putR_w (l_x : Bool) (l : List Wait_T) (w_Client : Int) (w_Seq : Int) (w_File : Int) (w_Mode : Int) : unitQ Try.prog cfg PKt prP false 9 (groupA putR_sh (Tu.mk putR_fs ((l_x, l), w_Client, w_Seq, w_File, w_Mode))) [] = putR_r l_x l w_Client w_Seq w_File w_Mode := by kernel_rfl

theorem PKt_ok : PKsOk Try.prog PKt := PKsOk.anyF PKz_ok 11 dropoS (by
  rintro ⟨⟨x, l⟩, c⟩ h
  have h' : l.length ≤ 100000 := h
  refine CallOk.unit (fnOk PKz_ok 21) rfl drP_ok.loops (o := true) (by show 0 ≤ 1000; decide) ((dropo2_w x l c).trans ?_)
  unfold dropo2_r
  refine oK_lpq (Q := fun z => z = _) drH_inj ((x, l), c) h' ?_
  have e : drF ((x, l), c) = dropF l c := rfl
  rw [e]
  refine Eq.trans ?_ (congrArg some (own_one (sz := 4) (x := true) (l := dropF l c) (f := mkV true Wait_tfs) (out := [])).symm)
  cases hd : dropF l c with
  | nil => rfl
  | cons a r =>
    refine bK_fq (Q := fun z => z = _) rfl ?_
    rw [if_neg (by simp), List.length_map]
    rfl)
theorem prl : (loopsOf 0 (codeOf Try.prog 9)).map (·.1) = [0] := by kernel_rfl
theorem pro : OneLoops Try.prog 9 := by unfold OneLoops; rw [prl]; decide
theorem pra : At 0 (codeOf Try.prog 9) 0 (.loop (bodyAt Try.prog 9 0)) := at_body pro (by rw [prl]; decide)
theorem ne_emp {l : List Wait_T} {i : Nat} (h : i < l.length) : (l.map (mkV true Wait_tfs)).isEmpty = false := by
  cases l with
  | nil => simp at h
  | cons a r => rfl
def prX (x : Bool) (l : List Wait_T) (w : Wait_T) (k : Int) : Ex × St := if 0 ≤ k then (.ret, prY x l w (l.set k.toNat w)) else (.exit 0, prN x l w)
theorem pr_run (x : Bool) (l : List Wait_T) (w : Wait_T) (hl : l.length ≤ 100000) : ∀ (j i : Nat), i + j = l.length → ∀ (m : Nat), j < m → Runs' Try.prog cfg PKt 9 0 m (prh x l w i) (prX x l w (firstN (wantP w) (l.drop i) i))
  | 0, i, hi, m + 1, hm => by
    rw [List.drop_of_length_le (by omega)]
    refine Runs'.done (lp := LP0) LPok.none pra ((pr_s_w x l w i).trans ?_)
    unfold pr_s_r
    rw [bK_neg (by simp; omega)]
    rfl
  | j + 1, i, hi, m + 1, hm => by
    have hi' : i < l.length := by omega
    have e : l.drop i = l[i] :: l.drop (i + 1) := List.drop_eq_getElem_cons hi'
    have e2 : l.getD (i : Int).toNat (0, 0, 0, 0) = l[i] := by rw [Int.toNat_natCast, getD_at hi']
    have at_ : ∀ {Q : Option (St ⊕ (Ex × St)) → Prop} {k : Wait_T → Option (St ⊕ (Ex × St))}, Q (k l[i]) → Q (oK (elemAt true Wait_tfs (l.map (mkV true Wait_tfs)) i) k) := fun hk => oK_atq (fs := Wait_tfs) (0, 0, 0, 0) (by omega) (by simpa using hi') (by rw [e2]; exact hk)
    have e1 : IntKind.i64.wrap ((i : Int) + 1) = ((i + 1 : Nat) : Int) := by rw [w64 (by omega) (by omega)]; omega
    rw [e, firstN]
    by_cases h : wantP w l[i] = true
    · rw [if_pos h]
      have h1 : l[i].1 = w.1 ∧ l[i].2.2.1 = w.2.2.1 := by simpa [wantP] using h
      have : prX x l w (i : Int) = (.ret, prY x l w (l.set i w)) := by
        unfold prX
        rw [if_pos (by omega), Int.toNat_natCast]
      rw [this]
      refine Runs'.done (lp := LP0) LPok.none pra ((pr_s_w x l w i).trans ?_)
      unfold pr_s_r
      rw [bK_pos (by simp; omega)]
      refine at_ (Q := fun z => z = _) ?_
      rw [bK_pos (decide_eq_true h1.1)]
      refine at_ (Q := fun z => z = _) ?_
      rw [bK_pos (decide_eq_true h1.2), bK_pos (by simp [AV.cells, mkV, mkA, Tu.mk]), bK_neg (ne_emp hi')]
      rw [bK_pos (by rw [Bool.true_and]; exact drfit (by simp; omega)), bK_pos (by simp; omega)]
      rw [List.nil_append, Nat.zero_add, Int.toNat_natCast]
      refine (oK_pos (stRow_map (fs := Wait_tfs) l i hi' w)).trans ?_
      unfold prY
      rw [Nat.zero_add, show ((l.set i w).map (mkV true Wait_tfs)).length = (l.map (mkV true Wait_tfs)).length by simp]
      rfl
    · rw [if_neg h]
      refine Runs'.step (lp := LP0) LPok.none pra ((pr_s_w x l w i).trans ?_) (pr_run x l w hl j (i + 1) (by omega) m (by omega))
      unfold pr_s_r
      rw [bK_pos (by simp; omega), e1]
      refine at_ (Q := fun z => z = _) ?_
      refine bK_i (fun c1 => ?_) (fun c1 => rfl)
      refine at_ (Q := fun z => z = _) ?_
      rw [bK_neg (decide_eq_false (fun c2 => h (by simp [wantP, c1, c2])))]
      rfl
theorem prP_ok : LPok Try.prog cfg PKt prP 9 := LPok.addH LPok.none pro (by
  rintro ⟨⟨x, l⟩, w⟩ h
  have h2 : l.length ≤ 100000 := h
  have hr : Runs' Try.prog cfg PKt 9 0 rounds (prH ((x, l), w)) (prX x l w (firstN (wantP w) l 0)) := by
    have := pr_run x l w h2 l.length 0 (by omega) rounds (by simp only [rounds]; omega)
    rw [List.drop_zero] at this
    exact this
  have e1 : prB ((x, l), w) = decide (0 ≤ firstN (wantP w) l 0) := rfl
  have e2 : prF ((x, l), w) = l.set (firstN (wantP w) l 0).toNat w := rfl
  simp only [Alt.val, e1, e2]
  unfold prX at hr
  by_cases hq : 0 ≤ firstN (wantP w) l 0
  · rw [if_pos hq] at hr; rw [decide_eq_true hq]; exact hr
  · rw [if_neg hq] at hr; rw [decide_eq_false hq]; exact hr)
theorem prH_inj (d d' : PrD) (h : prH d = prH d') : d = d' := by
  obtain ⟨⟨x, l⟩, w⟩ := d
  obtain ⟨⟨x', l'⟩, w'⟩ := d'
  simp only [prH, prh, boxB, St.mk.injEq, List.cons.injEq, Prod.mk.injEq, AV.slc.injEq, Blk.mk.injEq, and_true, true_and] at h
  have e1 := map_inj (fs := Wait_tfs) rfl h.1.2
  have e2 := mk_inj (fs := Wait_tfs) rfl h.2
  rw [h.1.1, e1, e2]
/-- With one that waits, as the document says. -/
def putRF (l : List Wait_T) (w : Wait_T) : List Wait_T × Bool :=
  if 0 ≤ firstN (wantP w) l 0 then (l.set (firstN (wantP w) l 0).toNat w, true)
  else if 4 ≤ (dropF l w.1).length then (l, false) else (dropF l w.1 ++ [w], true)
def putRQ (l : List Wait_T) (w : Wait_T) : List Wait_T × Bool := putRF l w
def putRX (x : Bool) (l : List Wait_T) (w : Wait_T) : Bool := x && !(putRF l w).2
noncomputable def putRS : FS := ⟨putR_sh, putR_fs, putR_rsh, putR_rfs, fun d => d.1.2.length ≤ 100000, fun d => ((putRX d.1.1 d.1.2 d.2, (putRQ d.1.2 d.2).1), (putRQ d.1.2 d.2).2), none⟩
theorem putREnd (K : List Wait_T) (w : Wait_T) : some ({ pan := false, res := .tup [.slc false (K.map (mkV true Wait_tfs) ++ [.agg [.int .i64 w.1, .int .i64 w.2.1, .int .i64 w.2.2.1, .int .i64 w.2.2.2]]), .bool true], out := [], new := [] } : Ret) = some (putRS.out ((false, K ++ [w]), true)) := by
  have e : (K ++ [w]).map (mkV true Wait_tfs) = K.map (mkV true Wait_tfs) ++ [.agg [.int .i64 w.1, .int .i64 w.2.1, .int .i64 w.2.2.1, .int .i64 w.2.2.2]] := by rw [List.map_append]; rfl
  show _ = some ({ pan := false, res := .tup [.slc false ((K ++ [w]).map (mkV true Wait_tfs)), .bool true], out := [], new := [] } : Ret)
  rw [e]
theorem putRO : ∀ d : Tu putRS.fs, putRS.pre d → CallOk Try.prog 9 (putRS.args d) [] (putRS.ret d) := by
  rintro ⟨⟨x, l⟩, w⟩ h
  have h' : l.length ≤ 100000 := h
  refine CallOk.unit (fnOk PKt_ok 21) rfl prP_ok.loops (o := false) (by show 0 ≤ 1000; decide) ((putR_w x l w.1 w.2.1 w.2.2.1 w.2.2.2).trans ?_)
  show _ = some (putRS.out ((x && !(putRF l w).2, (putRF l w).1), (putRF l w).2))
  have hle := dropF_le l w.1
  unfold putR_r
  refine oK_lpq (Q := fun z => z = _) prH_inj ((x, l), w) h' ?_
  have e1 : prB ((x, l), w) = decide (0 ≤ firstN (wantP w) l 0) := rfl
  have e2 : prF ((x, l), w) = l.set (firstN (wantP w) l 0).toNat w := rfl
  rw [e1, e2]
  refine bK_i (fun c1 => ?_) (fun c1 => ?_)
  · have rest : putRF l w = (l.set (firstN (wantP w) l 0).toNat w, true) := by unfold putRF; rw [if_pos c1]
    rw [rest, bK_pos (by simp), List.drop_zero, List.take_length]
    cases x <;> rfl
  · have rest : putRF l w = if 4 ≤ (dropF l w.1).length then (l, false) else (dropF l w.1 ++ [w], true) := by unfold putRF; rw [if_neg c1]
    refine oK_fsq (Q := fun z => z = _) dropoS ((x, l), w.1) h' ?_
    have hq : dropQ l w.1 = dropF l w.1 := rfl
    simp only [hq, List.length_map]
    cases hd : dropF l w.1 with
    | nil =>
      rw [hd] at rest
      rw [rest, if_neg (by simp)]
      refine bK_tq (Q := fun z => z = _) rfl ?_
      cases x <;> rfl
    | cons a r =>
      rw [← hd]
      have hne : ((dropF l w.1).map (mkV true Wait_tfs)).isEmpty = false := by rw [hd]; rfl
      refine bK_fq (Q := fun z => z = _) hne (bK_tq (Q := fun z => z = _) (by simp) ?_)
      refine bK_i (fun c2 => ?_) (fun c2 => ?_)
      · rw [rest, if_pos (by omega)]
        cases x <;> rfl
      · rw [rest, if_neg (by omega), bK_pos (by simp), bK_pos (by simp only [true_and, decide_true, Bool.true_and]; exact drfit (by omega)), bK_pos (by simp)]
        have eZ : List.take (dropF l w.1).length ((dropF l w.1).map (mkV true Wait_tfs)) = (dropF l w.1).map (mkV true Wait_tfs) := by rw [List.take_of_length_le (by simp)]
        rw [app_end _ _ _ (by simp), eZ, Bool.not_true, Bool.and_false]
        exact putREnd _ _

end Go.Proofs.Ytknikmehfnihpaa
