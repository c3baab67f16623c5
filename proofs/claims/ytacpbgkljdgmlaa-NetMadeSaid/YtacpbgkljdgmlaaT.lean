/- A part of the proof: contracts of functions. -/
import Derived.Test.YtacpbgkljdgmlaaS
import Derived.Test.YtacpbgkljdgmlaaAbAny

set_option linter.unusedVariables false
set_option linter.unusedSimpArgs false
set_option maxRecDepth 100000
namespace Go.Proofs.Ytacpbgkljdgmlaa
open Go Go.Ab
noncomputable def T1 : PKs := PKz.add 9 sendRS.pk
theorem T1_ok : PKsOk Try.prog T1 := PKsOk.anyF PKz_ok 9 sendRS sendRO
abbrev twiceR_id : Nat := 14
abbrev twiceR_sh : Shp := [none, none]
abbrev twiceR_fs : List Lf := [.fl true Gram_tfs, .fi .i64]
abbrev twiceR_rsh : Shp := [none, none]
abbrev twiceR_rfs : List Lf := [.fl true Gram_tfs, .fb]
noncomputable def twiceR_r (l_x : Bool) (l : List Gram_T) (i : Int) : Option Ret :=
  bK (decide (i < 0)) (some { pan := false, res := AV.tup [AV.slc l_x (List.map (mkV true Gram_tfs) l), AV.bool false], out := [], new := [] }) (bK (decide ((↑(List.map (mkV true Gram_tfs) l).length : Int) ≤ i)) (some { pan := false, res := AV.tup [AV.slc l_x (List.map (mkV true Gram_tfs) l), AV.bool false], out := [], new := [] }) (bK (decide (40 ≤ (↑(List.map (mkV true Gram_tfs) l).length : Int))) (some { pan := false, res := AV.tup [AV.slc l_x (List.map (mkV true Gram_tfs) l), AV.bool false], out := [], new := [] }) (oK (elemAt true Gram_tfs (List.map (mkV true Gram_tfs) l) i) fun (d0 : Int × List UInt8 × Bool) => oK (sendRS.dec [AV.slc l_x (List.map (mkV true Gram_tfs) l), AV.agg [AV.int IntKind.i64 d0.fst, AV.str d0.snd.fst, AV.bool d0.snd.snd]] []) fun (d1 : (Bool × List (Int × List UInt8 × Bool)) × Int × List UInt8 × Bool) => some { pan := false, res := AV.tup [AV.slc false (List.map (mkV true Gram_tfs) (sendF d1.fst.snd d1.snd)), AV.bool true], out := [], new := [] })))
theorem twiceR_w (l_x : Bool) (l : List Gram_T) (i : Int) : unitQ Try.prog cfg T1 LP0 false 14 (groupA twiceR_sh (Tu.mk twiceR_fs ((l_x, l), i))) [] = twiceR_r l_x l i := by kernel_rfl

noncomputable def twiceRS : FS := ⟨twiceR_sh, twiceR_fs, twiceR_rsh, twiceR_rfs, fun d => d.1.2.length ≤ 100000, fun d => ((d.1.1 && !(twiceF d.1.2 d.2).2, (twiceF d.1.2 d.2).1), (twiceF d.1.2 d.2).2), none⟩
theorem twiceRV (x : Bool) (l : List Gram_T) (i : Int) (h' : l.length ≤ 100000) : twiceR_r x l i = some (twiceRS.out ((x && !(twiceF l i).2, (twiceF l i).1), (twiceF l i).2)) := by
  have no : ¬ ((0 ≤ i ∧ i < (l.length : Int)) ∧ l.length < 40) → some ({ pan := false, res := AV.tup [AV.slc x (l.map (mkV true Gram_tfs)), AV.bool false], out := [], new := [] } : Ret) = some (twiceRS.out ((x && !(twiceF l i).2, (twiceF l i).1), (twiceF l i).2)) := fun hn => by
    unfold twiceF
    rw [if_neg hn]
    cases x <;> rfl
  unfold twiceR_r
  refine bK_i (fun c => no (by omega)) (fun c => bK_i (fun c2 => no (by rw [List.length_map] at c2; omega)) (fun c2 => bK_i (fun c3 => no (by rw [List.length_map] at c3; omega)) (fun c3 => ?_)))
  rw [List.length_map] at c2 c3
  refine oK_atq (Q := fun z => z = _) (fs := Gram_tfs) zG (by omega) (by omega) ?_
  refine oK_fsq (Q := fun z => z = _) sendRS ((x, l), l.getD i.toNat zG) h' ?_
  have : twiceF l i = (sendF l (l.getD i.toNat zG), true) := by unfold twiceF; rw [if_pos ⟨⟨by omega, by omega⟩, by omega⟩]
  rw [this, Bool.not_true, Bool.and_false]
  rfl
theorem twiceRO : ∀ d : Tu twiceRS.fs, twiceRS.pre d → CallOk Try.prog 14 (twiceRS.args d) [] (twiceRS.ret d)
  | ((x, l), i), h => CallOk.unit (fnOk T1_ok 21) rfl fLoops_none (o := false) (by show 0 ≤ 1000; decide) ((twiceR_w x l i).trans (twiceRV x l i h))
/-- Not more than may, and none too long. -/
def NInv (a : List Gram_T) : Prop := a.length ≤ 40 ∧ ∀ g ∈ a, g.2.1.length ≤ 40
theorem send_inv {a : List Gram_T} {g : Gram_T} (h : NInv a) (hg : g.2.1.length ≤ 40) : NInv (sendF a g) := by
  unfold sendF
  split
  · refine ⟨by simp; omega, fun y hy => ?_⟩
    rcases List.mem_append.1 hy with hy | hy
    · exact h.2 y hy
    · simp at hy; subst hy; exact hg
  · exact h
theorem comes_inv {a : List Gram_T} {i : Int} (h : NInv a) : NInv (comesF a i).1 := by
  unfold comesF
  split
  · exact ⟨Nat.le_trans (List.length_eraseIdx_le _ _) h.1, fun y hy => h.2 y (List.mem_of_mem_eraseIdx hy)⟩
  · exact h
theorem getD_inv {a : List Gram_T} (h : NInv a) (k : Nat) : (a.getD k zG).2.1.length ≤ 40 := by
  by_cases hk : k < a.length
  · rw [getD_at hk]; exact h.2 _ (List.getElem_mem hk)
  · simp [List.getD, List.getElem?_eq_none (show a.length ≤ k by omega), zG]
theorem twice_inv {a : List Gram_T} {i : Int} (h : NInv a) : NInv (twiceF a i).1 := by
  unfold twiceF
  split
  · exact send_inv h (getD_inv h _)
  · exact h
theorem turned_inv {a : List Gram_T} {i t : Int} (h : NInv a) : NInv (turnedF a i t).1 := by
  unfold turnedF
  split
  · refine ⟨by simpa using h.1, fun y hy => ?_⟩
    rcases List.mem_or_eq_of_mem_set hy with hy | hy
    · exact h.2 y hy
    · subst hy
      show (turnB _ t).length ≤ 40
      unfold turnB
      rw [List.length_set]
      exact getD_inv h _
  · exact h

end Go.Proofs.Ytacpbgkljdgmlaa
