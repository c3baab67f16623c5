/- A part of the proof: contracts of functions. -/
import Derived.Test.YtlomiepgghlhbaaP
import Derived.Test.YtlomiepgghlhbaaAbAny

set_option linter.unusedVariables false
set_option linter.unusedSimpArgs false
set_option maxRecDepth 100000
namespace Go.Proofs.Ytlomiepgghlhbaa
open Go Go.Ab
set_option maxHeartbeats 8000000
/-- A disk behind a write, and whether it was written. -/
def wriQ (L : List (List UInt8)) (W : List Put_T) (arm : Int) (down : Bool) (i : Int) (b : List UInt8) : (Bool × List (List UInt8)) × (Bool × List Put_T) × Int × Bool × Bool :=
  if down = false ∧ 0 ≤ i ∧ i < (L.length : Int) ∧ b.length = 32 then
    (if 0 < arm then ((L.isEmpty, L), (false, W ++ [(i, b)]), arm - 1, decide (arm - 1 = 0), !decide (arm - 1 = 0)) else ((L.isEmpty, L), (false, W ++ [(i, b)]), arm, false, true))
  else ((L.isEmpty, L), (W.isEmpty, W), arm, down, false)
noncomputable def wriS : FS := ⟨wri_sh, wri_fs, wri_rsh, wri_rfs, fun d => d.1.2.length ≤ 100000 ∧ d.2.1.2.length ≤ 100000 ∧ d.2.2.1 ≤ 100000, fun d => wriQ d.1.2 d.2.1.2 d.2.2.1 d.2.2.2.1 d.2.2.2.2.1 d.2.2.2.2.2, none⟩
theorem oK_clL {R : Type} (x : Bool) (l : List (List UInt8)) (h : l.length ≤ 100000) {k : (Bool × List (List UInt8)) → Option R} {z : Option R} (hz : k (x, l) = z) : oK (cloneS.dec [AV.slc x (List.map (mkV false [Lf.fs]) l)] []) k = z := oK_fsq (Q := fun y => y = z) cloneS (x, l) h hz
theorem oK_clW {R : Type} (x : Bool) (l : List Put_T) (h : l.length ≤ 100000) {k : (Bool × List Put_T) → Option R} {z : Option R} (hz : k (x, l) = z) : oK (clonS.dec [AV.slc x (List.map (mkV true Put_tfs) l)] []) k = z := oK_fsq (Q := fun y => y = z) clonS (x, l) h hz
theorem chain {R : Type} (down : Bool) (i n : Int) (b : List UInt8) (A X : Option R) : bK (!down) (bK (decide (0 ≤ i)) (bK (!decide (i < n)) A (bK (!decide ((b.length : Int) = 32)) A X)) A) A = if down = false ∧ 0 ≤ i ∧ i < n ∧ b.length = 32 then X else A := by
  by_cases h1 : down = false <;> by_cases h2 : 0 ≤ i <;> by_cases h3 : i < n <;> by_cases h4 : b.length = 32 <;> simp [bK_if, h1, h2, h3, h4] <;> omega
theorem wri_V (lx : Bool) (L : List (List UInt8)) (wx : Bool) (W : List Put_T) (arm : Int) (down : Bool) (i : Int) (b : List UInt8) (h1 : L.length ≤ 100000) (h2 : W.length ≤ 100000) (h3 : arm ≤ 100000) :
    wri_r lx L wx W arm down i b = some (wriS.out (wriQ L W arm down i b)) := by
  have e2 : ∀ (x : Bool) (l : List Put_T), (cloneG (x, l)).2 = l := fun _ _ => rfl
  have e1 : ∀ (x : Bool) (l : List (List UInt8)), (cloneF (x, l)).2 = l := fun _ _ => rfl
  have ea : 0 < arm → IntKind.i64.wrap (arm - 1) = arm - 1 := fun h => w64 (by omega) (by omega)
  unfold wri_r
  refine oK_clL lx L h1 ?_
  rw [e1]
  have key : ∀ (x y : Option Ret) (l : List (List UInt8)), bK (List.map (mkV false [Lf.fs]) l).isEmpty x y = if l.isEmpty then x else y := fun x y l => by cases l <;> rfl
  have key2 : ∀ (x y : Option Ret) (l : List Put_T), bK (List.map (mkV true Put_tfs) l).isEmpty x y = if l.isEmpty then x else y := fun x y l => by cases l <;> rfl
  rw [key]
  split
  · rename_i hL
    obtain rfl : L = [] := by simpa using hL
    refine oK_clW wx W h2 ?_
    rw [e2, key2]
    have hq : wriQ [] W arm down i b = ((true, []), (W.isEmpty, W), arm, down, false) := by
      unfold wriQ; rw [if_neg (by simp; omega)]; rfl
    rw [hq]
    simp only [Nat.zero_add, Nat.le_refl, decide_true, bK_true, List.drop_zero, List.take_length]
    split
    · rename_i hW
      obtain rfl : W = [] := by simpa using hW
      rw [chain, if_neg (by omega)]
      rfl
    · rename_i hW
      rw [chain, if_neg (by omega)]
      simp only [Bool.not_eq_true] at hW
      rw [hW]
      rfl
  · rename_i hL
    have hL' : L.isEmpty = false := by simpa using hL
    refine oK_clW wx W h2 ?_
    rw [e2, key2]
    simp only [Nat.zero_add, Nat.le_refl, decide_true, bK_true, List.drop_zero, List.take_length, List.length_map, chain, true_and, Bool.true_and, fit54 (n := W.length + 1) (by omega), List.length_append, List.length_cons, List.length_nil]
    have et : ∀ (a : AV), List.take (W.length + 1) (List.take W.length (List.map (mkV true Put_tfs) W) ++ [a]) = List.map (mkV true Put_tfs) W ++ [a] := fun a => by
      rw [List.take_of_length_le (by simp), List.take_of_length_le (by simp)]
    have et2 : List.take W.length (List.map (mkV true Put_tfs) W) = List.map (mkV true Put_tfs) W := List.take_of_length_le (by simp)
    have et3 : List.take L.length (List.map (mkV false [Lf.fs]) L) = List.map (mkV false [Lf.fs]) L := List.take_of_length_le (by simp)
    have et4 : ∀ (a : AV), List.take (W.length + 1) (List.map (mkV true Put_tfs) W ++ [a]) = List.map (mkV true Put_tfs) W ++ [a] := fun a => List.take_of_length_le (by simp)
    simp only [et, et2, et3, et4, List.length_map, Nat.le_refl, decide_true, bK_true]
    unfold wriQ
    by_cases hc : down = false ∧ 0 ≤ i ∧ i < (L.length : Int) ∧ b.length = 32
    · have hd := hc.1
      rw [if_pos hc, if_pos hc, if_pos hc]
      have em : List.map (mkV true Put_tfs) W ++ [AV.agg [AV.int IntKind.i64 i, AV.str b]] = List.map (mkV true Put_tfs) (W ++ [(i, b)]) := by rw [List.map_append]; rfl
      by_cases ha : 0 < arm
      · rw [if_pos ha, decide_eq_true ha, bK_true, bK_true, ea ha, hL']
        split
        · rename_i hW
          obtain rfl : W = [] := by simpa using hW
          rfl
        · rw [em]; rfl
      · rw [if_neg ha, decide_eq_false ha, bK_false, bK_false, hd, hL']
        split
        · rename_i hW
          obtain rfl : W = [] := by simpa using hW
          rfl
        · rw [em]; rfl
    · rw [if_neg hc, if_neg hc, if_neg hc]
      split
      · rename_i hW
        obtain rfl : W = [] := by simpa using hW
        rw [hL']; rfl
      · rename_i hW
        have hW' : W.isEmpty = false := by simpa using hW
        rw [hL', hW']; rfl
theorem wriO : ∀ d : Tu wriS.fs, wriS.pre d → CallOk Try.prog 16 (wriS.args d) [] (wriS.ret d) := by
  rintro ⟨⟨lx, L⟩, ⟨wx, W⟩, arm, down, i, b⟩ ⟨h1, h2, h3⟩
  exact CallOk.unit (fnOk PK2_ok 21) rfl fLoops_none (o := false) (by show 0 ≤ 1000; decide) ((wri_w lx L wx W arm down i b).trans (wri_V lx L wx W arm down i b h1 h2 h3))

end Go.Proofs.Ytlomiepgghlhbaa
