/- A part of the proof: an evaluator of code on values and its soundness. -/
import Derived.Test.YtkanmigbbpppnaaAbAny
set_option linter.unusedVariables false
set_option linter.unusedSimpArgs false
/- Lists: the first that is so; what is left without those that are so. -/
namespace Go.Ab
open Go

section
variable {α : Type}

def firstN (p : α → Bool) : List α → Int → Int
 | [], _ => -1
 | a :: r, i => if p a = true then i else firstN p r (i + 1)

theorem firstN_ge (p : α → Bool) : ∀ (l : List α) (i : Int), 0 ≤ i → (firstN p l i = -1 ∧ ∀ a ∈ l, p a = false) ∨ (∃ (k : Nat) (h : k < l.length), firstN p l i = i + k ∧ p l[k] = true ∧ ∀ a ∈ l.take k, p a = false)
 | [], i, _ => .inl ⟨rfl, by simp⟩
 | a :: r, i, hi => by
  unfold firstN
  by_cases h : p a = true
  ·rw [if_pos h]
   exact .inr ⟨0, by simp, by simp, h, by simp⟩
  ·rw [if_neg h]
   rcases firstN_ge p r (i + 1) (by omega) with ⟨h1, h2⟩ | ⟨k, hk, h1, h2, h3⟩
   ·refine .inl ⟨h1, fun b hb => ?_⟩
    rcases List.mem_cons.1 hb with rfl | hb
    ·simpa using h
    ·exact h2 b hb
   ·refine .inr ⟨k + 1, by simp; omega, by rw [h1]; omega, by simpa using h2, fun b hb => ?_⟩
    rw [List.take_succ_cons] at hb
    rcases List.mem_cons.1 hb with rfl | hb
    ·simpa using h
    ·exact h3 b hb

theorem firstN_lt (p : α → Bool) (l : List α) : firstN p l 0 = -1 ∨ (0 ≤ firstN p l 0 ∧ firstN p l 0 < l.length) := by
 rcases firstN_ge p l 0 (by omega) with ⟨h, _⟩ | ⟨k, hk, h, _⟩
 ·exact .inl h
 ·right; rw [h]; omega

def delN (p : α → Bool) : Nat → List α → Nat → Nat → List α × Nat
 | 0, B, i, _ => (B, i)
 | k + 1, B, i, j => match B[j]? with
  | none => (B, i)
  | some v => if p v = true then delN p k B i (j + 1) else delN p k (B.set i v) (i + 1) (j + 1)

theorem delN_spec (p : α → Bool) : ∀ (k : Nat) (B : List α) (i j : Nat), i ≤ j → j + k = B.length →
  (delN p k B i j).1.length = B.length ∧ (delN p k B i j).2 = i + ((B.drop j).filter fun a => !p a).length ∧ (delN p k B i j).1.take (delN p k B i j).2 = B.take i ++ (B.drop j).filter fun a => !p a
 | 0, B, i, j, hij, hl => by
  have : B.drop j = [] := List.drop_of_length_le (by omega)
  rw [this]
  simp [delN]
 | k + 1, B, i, j, hij, hl => by
  have hj : j < B.length := by omega
  have e : B.drop j = B[j] :: B.drop (j + 1) := List.drop_eq_getElem_cons hj
  unfold delN
  rw [List.getElem?_eq_getElem hj]
  simp only
  by_cases h : p B[j] = true
  ·rw [if_pos h]
   obtain ⟨h1, h2, h3⟩ := delN_spec p k B i (j + 1) (by omega) (by omega)
   rw [e, List.filter_cons]
   simp only [h, Bool.not_true, Bool.false_eq_true, if_false]
   exact ⟨h1, h2, h3⟩
  ·rw [if_neg h]
   have hf : p B[j] = false := by simpa using h
   obtain ⟨h1, h2, h3⟩ := delN_spec p k (B.set i B[j]) (i + 1) (j + 1) (by omega) (by simp; omega)
   have hd : (B.set i B[j]).drop (j + 1) = B.drop (j + 1) := by
    rw [List.drop_set_of_lt (by omega)]
   rw [hd] at h2 h3
   rw [e, List.filter_cons]
   simp only [hf, Bool.not_false, if_true, List.length_cons]
   refine ⟨by rw [h1]; simp, by rw [h2]; omega, ?_⟩
   rw [h3]
   have ht : (B.set i B[j]).take (i + 1) = B.take i ++ [B[j]] := by
    rw [List.take_add_one, List.getElem?_set_self (by omega)]
    simp [List.take_set_of_le]
   rw [ht]
   simp

theorem filter_take_none {p : α → Bool} {l : List α} {k : Nat} (hk : k < l.length) (h1 : p l[k] = true) (h2 : ∀ a ∈ l.take k, p a = false) : (l.filter fun a => !p a) = l.take k ++ (l.drop (k + 1)).filter fun a => !p a := by
 have e : l = l.take k ++ (l[k] :: l.drop (k + 1)) := by
  rw [← List.drop_eq_getElem_cons hk, List.take_append_drop]
 conv => lhs; rw [e]
 rw [List.filter_append, List.filter_cons]
 simp only [h1, Bool.not_true, Bool.false_eq_true, if_false]
 congr 1
 exact List.filter_eq_self.2 fun a ha => by rw [h2 a ha]; rfl

def keepZ (p : α → Bool) (z : α) (l : List α) : List α := (l.filter fun a => !p a) ++ List.replicate (l.length - (l.filter fun a => !p a).length) z

theorem keepZ_none {p : α → Bool} {z : α} {l : List α} (h : ∀ a ∈ l, p a = false) : keepZ p z l = l ∧ (l.filter fun a => !p a).length = l.length := by
 have : (l.filter fun a => !p a) = l := List.filter_eq_self.2 fun a ha => by rw [h a ha]; rfl
 unfold keepZ
 rw [this]
 simp

theorem keepZ_take (p : α → Bool) (z : α) (l : List α) : (keepZ p z l).take (l.filter fun a => !p a).length = l.filter fun a => !p a := by
 unfold keepZ
 rw [List.take_left']
 rfl
theorem keepZ_len (p : α → Bool) (z : α) (l : List α) : (keepZ p z l).length = l.length := by
 unfold keepZ
 have := List.length_filter_le (fun a => !p a) l
 simp
 omega
end
theorem splice_all {xs ys : List AV} (h : ys.length = xs.length) : splice ys 0 xs = some xs := by
 unfold splice
 rw [if_pos (by omega)]
 simp [h]
theorem stRow_map {fs : List Lf} (l : List (Tu fs)) (i : Nat) (h : i < l.length) (d : Tu fs) : stRow (l.map (mkV true fs)) i 0 (Tu.mk fs d) = some ((l.set i d).map (mkV true fs)) := by
 have h1 := Tu.mk_length fs d
 have h2 := Tu.mk_length fs l[i]
 have e : (l.map (mkV true fs))[i]? = some (.agg (Tu.mk fs l[i])) := by rw [List.getElem?_map, List.getElem?_eq_getElem h]; rfl
 unfold stRow
 rw [e]
 have e2 : splice (AV.agg (Tu.mk fs l[i])).cells 0 (Tu.mk fs d) = some (Tu.mk fs d) := splice_all (by show (Tu.mk fs l[i]).length = _; omega)
 simp only [e2]
 rw [List.map_set]
 rfl
theorem clear_eq {α β : Type} (f : α → β) (B K : List α) (m : Nat) (z : α) (h : B.take m = K) (hm : m = K.length) : List.take (0 + m) (B.map f) ++ (List.replicate ((B.map f).length - m) (f z) ++ List.drop (0 + m + ((B.map f).length - m)) (B.map f)) = (K ++ List.replicate (B.length - K.length) z).map f := by
 have hle : m ≤ B.length := by
  rw [← h, List.length_take] at hm
  omega
 rw [List.drop_of_length_le (by simp; omega), List.append_nil, Nat.zero_add, ← List.map_take, h, List.length_map, hm, List.map_append, List.map_replicate]
end Go.Ab
namespace Go.Ab
theorem app_in {α : Type} (Z R : List α) (n : Nat) (x : α) (h : n ≤ Z.length) : List.take (n + 1) (List.drop 0 (List.take (0 + n) Z ++ x :: R)) = List.take n Z ++ [x] := by
 have hl : (List.take n Z).length = n := by rw [List.length_take]; omega
 rw [List.drop_zero, Nat.zero_add, List.take_append, hl, List.take_of_length_le (by omega)]
 simp
theorem app_end {α : Type} (Z : List α) (n : Nat) (x : α) (h : n ≤ Z.length) : List.take (n + 1) (List.drop 0 (List.take n Z ++ [x])) = List.take n Z ++ [x] := by
 have hl : (List.take n Z).length = n := by rw [List.length_take]; omega
 rw [List.drop_zero, List.take_of_length_le (by simp; omega)]
end Go.Ab
namespace Go.Ab
theorem firstN_none {α : Type} {p : α → Bool} : ∀ {l : List α} {i : Int}, (∀ a ∈ l, p a = false) → firstN p l i = -1
 | [], _, _ => rfl
 | a :: r, i, h => by
  unfold firstN
  rw [if_neg (by rw [h a (by simp)]; simp)]
  exact firstN_none fun b hb => h b (by simp [hb])
theorem firstN_at {α : Type} {p : α → Bool} : ∀ {l : List α} {i : Int} {k : Nat} (hk : k < l.length), p l[k] = true → (∀ a ∈ l.take k, p a = false) → firstN p l i = i + k
 | [], _, _, hk, _, _ => by simp at hk
 | a :: r, i, 0, hk, h1, h2 => by
  unfold firstN
  rw [if_pos (by simpa using h1)]
  simp
 | a :: r, i, k + 1, hk, h1, h2 => by
  unfold firstN
  rw [if_neg (by rw [h2 a (by simp)]; simp), firstN_at (k := k) (by simpa using hk) (by simpa using h1) (fun b hb => h2 b (by rw [List.take_succ_cons]; simp [hb]))]
  omega
end Go.Ab
namespace Go.Ab
theorem del_last {α : Type} (L : List α) (k : Nat) (h : k + 1 = L.length) (z : α) : List.take k L ++ (List.replicate (L.length - k) z ++ List.drop (k + (L.length - k)) L) = L.eraseIdx k ++ [z] := by
 rw [List.drop_of_length_le (by omega), List.append_nil, show L.length - k = 1 by omega, List.eraseIdx_eq_take_drop_succ, List.drop_of_length_le (by omega), List.append_nil]
 rfl
theorem del_mid {α : Type} (L : List α) (k : Nat) (h : k + 1 < L.length) (z : α) :
  List.take (k + (L.drop (k + 1)).length) (List.take k L ++ (L.drop (k + 1) ++ List.drop (k + (L.drop (k + 1)).length) L)) ++
   (List.replicate (L.length - (k + (L.drop (k + 1)).length)) z ++ List.drop (k + (L.drop (k + 1)).length + (L.length - (k + (L.drop (k + 1)).length))) (List.take k L ++ (L.drop (k + 1) ++ List.drop (k + (L.drop (k + 1)).length) L))) = L.eraseIdx k ++ [z] := by
 have hd : (L.drop (k + 1)).length = L.length - (k + 1) := List.length_drop
 have ht : (List.take k L).length = k := by rw [List.length_take]; omega
 rw [hd, show k + (L.length - (k + 1)) = L.length - 1 by omega, show L.length - (L.length - 1) = 1 by omega]
 have hl : (List.take k L ++ List.drop (k + 1) L).length = L.length - 1 := by rw [List.length_append, ht, hd]; omega
 have ea : ∀ X : List α, List.take k L ++ (List.drop (k + 1) L ++ X) = (List.take k L ++ List.drop (k + 1) L) ++ X := fun X => (List.append_assoc _ _ _).symm
 have hA : ∀ X : List α, List.take (L.length - 1) ((List.take k L ++ List.drop (k + 1) L) ++ X) = List.take k L ++ List.drop (k + 1) L := fun X => by
  rw [List.take_append_of_le_length (by omega)]
  exact List.take_of_length_le (by omega)
 have hB : List.drop (L.length - 1 + 1) ((List.take k L ++ List.drop (k + 1) L) ++ List.drop (L.length - 1) L) = [] :=
  List.drop_of_length_le (by rw [List.length_append, hl, List.length_drop]; omega)
 rw [ea, hA, hB, List.append_nil, List.eraseIdx_eq_take_drop_succ]
 rfl
end Go.Ab
namespace Go.Ab
open Go
theorem ldByte (B : List UInt8) (k : Nat) (h : k < B.length) : ldRow [Lf.fi .u8] (B.map fun c : UInt8 => AV.int .u8 (c.toNat : Int)) k 0 = some (B[k].toNat : Int) := by
 simp [ldRow, h, ldCells, AV.cells, Tu.dec, Lf.dec]
theorem stByte (B : List UInt8) (k : Nat) (h : k < B.length) (v : UInt8) : stRow (B.map fun c : UInt8 => AV.int .u8 (c.toNat : Int)) k 0 [.int .u8 (v.toNat : Int)] = some ((B.set k v).map fun c : UInt8 => AV.int .u8 (c.toNat : Int)) := by
 simp [stRow, h, splice, AV.cells, AV.recell, List.map_set]
theorem bytesOf_map : ∀ B : List UInt8, bytesOf? (B.map fun c : UInt8 => AV.int .u8 (c.toNat : Int)) = some B
 | [] => rfl
 | b :: B => by
  simp only [List.map_cons, bytesOf?]
  rw [bytesOf_map B]
  simp
end Go.Ab
namespace Go.Ab
open Go
theorem wrap_lt (n : Int) : IntKind.i64.wrap n < 9223372036854775808 := by
 simp [IntKind.wrap, IntKind.bits, IntKind.signed]
 omega
theorem wrap_ge (n : Int) : -9223372036854775808 ≤ IntKind.i64.wrap n := by
 simp [IntKind.wrap, IntKind.bits, IntKind.signed]
 omega
end Go.Ab
