/- Laws on tests, on numbers of a width, on lists of kinds. -/
import Derived.Test.YtacpbgkljdgmlaaAbT
import Derived.IntWalk
set_option linter.unusedVariables false
set_option linter.unusedSimpArgs false
namespace Go.Ab
open Go

section
variable {R : Type}
theorem bK_if {b : Bool} {x y : Option R} : bK b x y = if b = true then x else y := by cases b <;> rfl
theorem bK_pos {b : Bool} {x y : Option R} (h : b = true) : bK b x y = x := by rw [h]; rfl
theorem bK_neg {b : Bool} {x y : Option R} (h : b = false) : bK b x y = y := by rw [h]; rfl
theorem bK_dec {p : Prop} [Decidable p] {x y : Option R} : bK (decide p) x y = if p then x else y := by
  by_cases h : p <;> simp [h, bK]
theorem bK_ndec {p : Prop} [Decidable p] {x y : Option R} : bK (!decide p) x y = if p then y else x := by
  by_cases h : p <;> simp [h, bK]
theorem bK_i {p : Prop} [Decidable p] {x y z : Option R} (h1 : p → x = z) (h2 : ¬ p → y = z) : bK (decide p) x y = z := by
  by_cases h : p
  · rw [decide_eq_true h]; exact h1 h
  · rw [decide_eq_false h]; exact h2 h
theorem bK_n {p : Prop} [Decidable p] {x y z : Option R} (h1 : ¬ p → x = z) (h2 : p → y = z) : bK (!decide p) x y = z := by
  by_cases h : p
  · rw [decide_eq_true h]; exact h2 h
  · rw [decide_eq_false h]; exact h1 h
theorem bK_b {b : Bool} {x y z : Option R} (h1 : b = true → x = z) (h2 : b = false → y = z) : bK b x y = z := by
  cases b
  · exact h2 rfl
  · exact h1 rfl
theorem bK_iq {p : Prop} [Decidable p] {x y : Option R} {Q : Option R → Prop} (h1 : p → Q x) (h2 : ¬ p → Q y) : Q (bK (decide p) x y) := by
  by_cases h : p
  · rw [decide_eq_true h]; exact h1 h
  · rw [decide_eq_false h]; exact h2 h
theorem bK_nq {p : Prop} [Decidable p] {x y : Option R} {Q : Option R → Prop} (h1 : ¬ p → Q x) (h2 : p → Q y) : Q (bK (!decide p) x y) := by
  by_cases h : p
  · rw [decide_eq_true h]; exact h2 h
  · rw [decide_eq_false h]; exact h1 h
theorem bK_bq {b : Bool} {x y : Option R} {Q : Option R → Prop} (h1 : b = true → Q x) (h2 : b = false → Q y) : Q (bK b x y) := by
  cases b
  · exact h2 rfl
  · exact h1 rfl
theorem bK_tq {b : Bool} {x y : Option R} {Q : Option R → Prop} (h : b = true) (h1 : Q x) : Q (bK b x y) := by rw [h]; exact h1
theorem bK_fq {b : Bool} {x y : Option R} {Q : Option R → Prop} (h : b = false) (h1 : Q y) : Q (bK b x y) := by rw [h]; exact h1
theorem oK_q {α : Type} {o : Option α} {a : α} {k : α → Option R} {Q : Option R → Prop} (h : o = some a) (h1 : Q (k a)) : Q (oK o k) := by rw [h]; exact h1
theorem oK_atq {agg : Bool} {fs : List Lf} {l : List (Tu fs)} {n : Int} {k : Tu fs → Option R} {Q : Option R → Prop} (x : Tu fs) (h0 : 0 ≤ n) (h1 : n.toNat < l.length) (h : Q (k (l.getD n.toNat x))) (hok : okV agg fs = true := by rfl) : Q (oK (elemAt agg fs (l.map (mkV agg fs)) n) k) := by
  rw [elemAt_map hok, if_pos h0, List.getElem?_eq_getElem h1]
  have : l.getD n.toNat x = l[n.toNat] := by simp [List.getD, h1]
  rw [this] at h
  exact h
theorem ite_r {α : Type} {c : Prop} [Decidable c] {x y z : α} (h1 : c → z = x) (h2 : ¬ c → z = y) : z = if c then x else y := by
  by_cases h : c
  · rw [if_pos h]; exact h1 h
  · rw [if_neg h]; exact h2 h
theorem out_ite (p : FS) {c : Prop} [Decidable c] {x y : Tu p.rfs} {z : Option Ret} (h1 : c → z = some (p.out x)) (h2 : ¬ c → z = some (p.out y)) : z = some (p.out (if c then x else y)) := by
  by_cases h : c
  · rw [if_pos h]; exact h1 h
  · rw [if_neg h]; exact h2 h
theorem oK_pos {α : Type} {o : Option α} {a : α} {k : α → Option R} (h : o = some a) : oK o k = k a := by rw [h]; rfl
theorem oK_at {agg : Bool} {fs : List Lf} (hok : okV agg fs = true) {l : List (Tu fs)} {n : Int} {k : Tu fs → Option R} (h0 : 0 ≤ n) (h1 : n.toNat < l.length) : oK (elemAt agg fs (l.map (mkV agg fs)) n) k = k l[n.toNat] := by
  rw [elemAt_map hok, if_pos h0, List.getElem?_eq_getElem h1]; rfl
theorem oK_atD {agg : Bool} {fs : List Lf} (hok : okV agg fs = true) {l : List (Tu fs)} {n : Int} {k : Tu fs → Option R} (x : Tu fs) (h0 : 0 ≤ n) (h1 : n.toNat < l.length) : oK (elemAt agg fs (l.map (mkV agg fs)) n) k = k (l.getD n.toNat x) := by
  rw [oK_at hok h0 h1]; simp [List.getD, h1]
end
theorem take_app {α : Type} (l : List α) (x : α) : List.take (l.length + 1) (List.drop 0 (List.take l.length l ++ [x])) = l ++ [x] := by
  rw [List.drop_zero, List.take_length, List.take_of_length_le (by simp)]
theorem getD_at {α : Type} {l : List α} {n : Nat} (h : n < l.length) (x : α) : l.getD n x = l[n] := by simp [List.getD, h]
theorem w64 {n : Int} (h1 : -9223372036854775808 ≤ n) (h2 : n < 9223372036854775808) : IntKind.i64.wrap n = n := IntWalk.i64_in n ⟨h1, by omega⟩
theorem w8 {n : Int} (h1 : 0 ≤ n) (h2 : n < 256) : IntKind.u8.wrap n = n := by
  simp [IntKind.wrap, IntKind.bits, IntKind.signed]; omega
end Go.Ab
