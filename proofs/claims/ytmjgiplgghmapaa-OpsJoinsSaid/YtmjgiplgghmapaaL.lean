/- A part of the proof: contracts of functions. -/
import Derived.Test.YtmjgiplgghmapaaK
import Derived.Test.YtmjgiplgghmapaaAbAny

set_option linter.unusedVariables false
set_option linter.unusedSimpArgs false
set_option maxRecDepth 100000
namespace Go.Proofs.Ytmjgiplgghmapaa
open Go Go.Ab
set_option maxHeartbeats 8000000
/-- A byte. -/
abbrev wB (v : Int) : Int := IntKind.u8.wrap v
theorem pL1 (b : List Int) (v : Int) : putL b v 1 = b ++ [wB v] := by
  unfold putL
  rw [if_pos (by decide)]
  show b ++ [IntKind.u8.wrap (v.fdiv 1)] = _
  rw [Int.fdiv_one]
theorem pL2 (b : List Int) (v : Int) : putL b v 2 = b ++ [wB (v.fdiv 256), wB v] := by
  unfold putL
  rw [if_pos (by decide)]
  show b ++ [IntKind.u8.wrap (v.fdiv 256), IntKind.u8.wrap (v.fdiv 1)] = _
  rw [Int.fdiv_one]
theorem pG1 : ∀ (g b : List Int), pgL 1 b g = b ++ g.map wB
  | [], b => by show b = b ++ []; rw [List.append_nil]
  | a :: g, b => by
    show pgL 1 (putL b a 1) g = _
    rw [pG1 g, pL1, List.append_assoc]; rfl
def e2B (v : Int) : List Int := [wB (v.fdiv 256), wB v]
theorem pG2 : ∀ (g b : List Int), pgL 2 b g = b ++ g.flatMap e2B
  | [], b => by show b = b ++ []; rw [List.append_nil]
  | a :: g, b => by
    show pgL 2 (putL b a 2) g = _
    rw [pG2 g, pL2, List.append_assoc]; rfl
def txE (t : List UInt8) : List Int := if t.length ≤ 255 then wB (t.length : Int) :: t.map (fun c => (c.toNat : Int)) else []
theorem tL (b : List Int) (t : List UInt8) : textL b t = b ++ txE t := by
  unfold textL txE
  split
  · rfl
  · rw [List.append_nil]
/-- What stands behind a step's kind. -/
def bdE (s : Step_T) : List Int :=
  if s.1 = 1 then e2B s.2.2.1 ++ (gA s).flatMap e2B else if s.1 = 2 then [wB s.2.1] else if s.1 = 3 then wB s.2.1 :: txE s.2.2.2.2.2.2.2.1
  else if s.1 = 4 then [wB s.2.1, wB s.2.2.2.1] else if s.1 = 6 then [wB s.2.1, wB s.2.2.2.1] else if s.1 = 7 then [wB s.2.1, wB s.2.2.2.1] else if s.1 = 8 then [wB s.2.1, wB s.2.2.2.1]
  else if s.1 = 5 then wB s.2.1 :: wB s.2.2.2.1 :: wB s.2.2.2.2.1 :: txE s.2.2.2.2.2.2.2.1 else if s.1 = 12 then wB s.2.2.2.2.2.1 :: e2B s.2.2.2.2.2.2.1
  else if s.1 = 14 then wB s.2.1 :: wB ((gA s).length : Int) :: (gA s).map wB else [wB s.2.2.2.2.2.1]
theorem ite2 {p : Prop} [Decidable p] {a b c d : List Int} {w : Int} (h1 : a = w :: c) (h2 : b = w :: d) : (if p then a else b) = w :: (if p then c else d) := by
  by_cases h : p
  · rw [if_pos h, if_pos h]; exact h1
  · rw [if_neg h, if_neg h]; exact h2
theorem ptQ_eq (s : Step_T) : ptQ s = wB s.1 :: bdE s := by
  unfold ptQ bdE
  repeat' (first | refine ite2 ?_ ?_ | (simp only [pL1, pL2, pG1, pG2, tL, List.nil_append, List.append_assoc, List.cons_append, e2B]; done))
theorem wB_eq (v : Int) : wB v = v % 256 := rfl
theorem wB_byt (v : Int) : 0 ≤ wB v ∧ wB v < 256 := by
  rw [wB_eq]
  omega
theorem byt_c {a : Int} {l : List Int} (h : 0 ≤ a ∧ a < 256) (hl : byt l) : byt (a :: l) := fun v hv => by
  rcases List.mem_cons.1 hv with rfl | hv
  · exact h
  · exact hl v hv
theorem byt_a {a b : List Int} (ha : byt a) (hb : byt b) : byt (a ++ b) := fun v hv => by
  rcases List.mem_append.1 hv with hv | hv
  · exact ha v hv
  · exact hb v hv
theorem byt_n : byt [] := fun _ h => by cases h
theorem byt_e2 (v : Int) : byt (e2B v) := byt_c (wB_byt _) (byt_c (wB_byt _) byt_n)
theorem byt_w (g : List Int) : byt (g.map wB) := fun v hv => by
  obtain ⟨u, _, rfl⟩ := List.mem_map.1 hv
  exact wB_byt u
theorem byt_f (g : List Int) : byt (g.flatMap e2B) := fun v hv => by
  obtain ⟨u, _, h⟩ := List.mem_flatMap.1 hv
  exact byt_e2 u v h
theorem byt_t (t : List UInt8) : byt (txE t) := by
  unfold txE
  split
  · refine byt_c (wB_byt _) fun v hv => ?_
    obtain ⟨c, _, rfl⟩ := List.mem_map.1 hv
    have := c.toNat_lt
    omega
  · exact byt_n
theorem byt_if {p : Prop} [Decidable p] {a b : List Int} (h1 : byt a) (h2 : byt b) : byt (if p then a else b) := by
  by_cases h : p
  · rw [if_pos h]; exact h1
  · rw [if_neg h]; exact h2
theorem bdE_byt (s : Step_T) : byt (bdE s) := by
  unfold bdE
  repeat' (first | exact byt_n | exact byt_w _ | exact byt_f _ | exact byt_t _ | exact byt_e2 _ | refine byt_if ?_ ?_ | refine byt_c (wB_byt _) ?_ | refine byt_a (byt_e2 _) ?_)
theorem ptQ_byt (s : Step_T) : byt (ptQ s) := by
  rw [ptQ_eq]
  exact byt_c (wB_byt _) (bdE_byt s)
theorem len_if {p : Prop} [Decidable p] {a b : List Int} {n : Nat} (h1 : a.length ≤ n) (h2 : b.length ≤ n) : (if p then a else b).length ≤ n := by
  by_cases h : p
  · rw [if_pos h]; exact h1
  · rw [if_neg h]; exact h2
theorem tx_len (t : List UInt8) : (txE t).length ≤ 256 := by
  unfold txE
  split
  · simp only [List.length_cons, List.length_map]; omega
  · exact Nat.zero_le _
theorem f2_len (g : List Int) : (g.flatMap e2B).length = 2 * g.length := by
  induction g with
  | nil => rfl
  | cons a g ih => rw [List.flatMap_cons, List.length_append, ih]; simp only [e2B, List.length_cons, List.length_nil]; omega
theorem ptQ_len (s : Step_T) (h : (gA s).length ≤ 1000) : (ptQ s).length ≤ 3000 := by
  rw [ptQ_eq, List.length_cons]
  have ht := tx_len s.2.2.2.2.2.2.2.1
  have hf := f2_len (gA s)
  have : (bdE s).length ≤ 2999 := by
    unfold bdE
    repeat' (first | refine len_if ?_ ?_ | (simp only [List.length_cons, List.length_nil, List.length_append, List.length_map, e2B]; omega))
  omega
theorem ptQ_len2 (s : Step_T) (h : (gA s).length ≤ 20) : (ptQ s).length ≤ 300 := by
  rw [ptQ_eq, List.length_cons]
  have ht := tx_len s.2.2.2.2.2.2.2.1
  have hf := f2_len (gA s)
  have : (bdE s).length ≤ 299 := by
    unfold bdE
    repeat' (first | refine len_if ?_ ?_ | (simp only [List.length_cons, List.length_nil, List.length_append, List.length_map, e2B]; omega))
  omega
/-- No step that is read has many gains. -/
def gOk (o : Option Step_T × List Int) : Prop := ∀ s, o.1 = some s → (gA s).length ≤ 20
theorem gOk_none (b : List Int) : gOk (none, b) := fun s h => by cases h
theorem gOk_some {s : Step_T} {b : List Int} (h : (gA s).length ≤ 20) : gOk (some s, b) := fun s' h' => by cases h'; exact h
theorem gOk_if {p : Prop} [Decidable p] {a b : Option Step_T × List Int} (h1 : gOk a) (h2 : ¬ p → gOk b) : gOk (if p then a else b) := by
  by_cases h : p
  · rw [if_pos h]; exact h1
  · rw [if_neg h]; exact h2 h
theorem gL_len (d : GnD) : (gnL d).length ≤ d.2.1.toNat := gnF_len _ _ _
theorem stE_g (x : Bool) (b : List Int) (k : Int) : gOk (stE ((x, b), k)) := by
  unfold stE
  dsimp only
  repeat' (first
    | exact gOk_none _
    | (refine gOk_some ?_; exact Nat.zero_le _)
    | (refine gOk_some ?_; exact Nat.le_trans (gL_len _) (by show (4 : Int).toNat ≤ 20; decide))
    | (refine gOk_some ?_; refine Nat.le_trans (gL_len _) ?_; dsimp only; omega)
    | refine gOk_if ?_ (fun _ => ?_))
theorem nzS_g (x : Bool) (b : List Int) : (gA (nzS (x, b))).length ≤ 20 := by
  show (gA ((nzE x b).1.getD zStp)).length ≤ 20
  have h : gOk (nzE x b) := by
    unfold nzE
    split
    · exact gOk_none _
    · exact stE_g _ _ _
  cases ho : (nzE x b).1 with
  | none => exact Nat.zero_le _
  | some s => exact h s ho
theorem tsN_g (x : Bool) : ∀ (n : Nat) (b : List Int), ∀ s ∈ tsN x n b, (gA s).length ≤ 20
  | 0, b, s, h => by cases h
  | n + 1, b, s, h => by
    unfold tsN at h
    split at h
    · rcases List.mem_cons.1 h with rfl | h
      · exact nzS_g x b
      · exact tsN_g x n _ s h
    · cases h

end Go.Proofs.Ytmjgiplgghmapaa
