/- A part of the proof: contracts of functions. -/
import Derived.Test.YtmjgiplgghmapaaN
import Derived.Test.YtmjgiplgghmapaaAbAny

set_option linter.unusedVariables false
set_option linter.unusedSimpArgs false
set_option maxRecDepth 100000
namespace Go.Proofs.Ytmjgiplgghmapaa
open Go Go.Ab
set_option maxHeartbeats 8000000
def cM (o : Option Step_T × List Int) : Option (Step_T × List Int) := match o.1 with
  | some s => some (s, o.2)
  | none => none
theorem cM_if {p : Prop} [Decidable p] (a b : Option Step_T × List Int) : cM (if p then a else b) = if p then cM a else cM b := by
  by_cases h : p
  · rw [if_pos h, if_pos h]
  · rw [if_neg h, if_neg h]
theorem cM_s (s : Step_T) (r : List Int) : cM (some s, r) = some (s, r) := rfl
theorem cM_n (r : List Int) : cM (none, r) = none := rfl
theorem bnd_1 {β : Type} (x : Bool) (g : Int → PR β) (b : List Int) : bnd (pN 1) g b = if nmO ((x, b), 1) = true then g (nmV ((x, b), 1)) (nmB ((x, b), 1)) else none := by
  unfold bnd pN
  have e : nmO ((x, b), 1) = decide ((1 : Int) ≤ (b.length : Int)) := rfl
  rw [e]
  by_cases h : 1 ≤ b.length
  · rw [if_pos h, if_pos (decide_eq_true (by omega))]; rfl
  · rw [if_neg h, if_neg (by simp; omega)]
theorem bnd_2 {β : Type} (x : Bool) (g : Int → PR β) (b : List Int) : bnd (pN 2) g b = if nmO ((x, b), 2) = true then g (nmV ((x, b), 2)) (nmB ((x, b), 2)) else none := by
  unfold bnd pN
  have e : nmO ((x, b), 2) = decide ((2 : Int) ≤ (b.length : Int)) := rfl
  rw [e]
  by_cases h : 2 ≤ b.length
  · rw [if_pos h, if_pos (decide_eq_true (by omega))]; rfl
  · rw [if_neg h, if_neg (by simp; omega)]
theorem bnd_T {β : Type} (x : Bool) (g : List UInt8 → PR β) (b : List Int) : bnd pT g b = if txO (x, b) = true then g (txV (x, b)) (txB (x, b)) else none := by
  unfold bnd pT
  have e : txO (x, b) = (ttL b).2.2 := rfl
  rw [e]
  by_cases h : (ttL b).2.2 = true
  · rw [if_pos h, if_pos h]; rfl
  · rw [if_neg h, if_neg h]
theorem bnd_G2 {β : Type} (x : Bool) (g : List Int → PR β) (b : List Int) : bnd (pG 2 4) g b = if gnO ((x, b), 4, 2) = true then g (gnL ((x, b), 4, 2)) (gnB ((x, b), 4, 2)) else none := by
  unfold bnd
  rw [pG_eq]
  have e : gnO ((x, b), 4, 2) = (gnF 2 4 b).2.2 := rfl
  rw [e]
  by_cases h : (gnF 2 4 b).2.2 = true
  · rw [if_pos h, if_pos h]; rfl
  · rw [if_neg h, if_neg h]
theorem bnd_G1 {β : Type} (x : Bool) (g : List Int → PR β) (w : Int) (b : List Int) : bnd (pG 1 w.toNat) g b = if gnO ((x, b), w, 1) = true then g (gnL ((x, b), w, 1)) (gnB ((x, b), w, 1)) else none := by
  unfold bnd
  rw [pG_eq]
  have e : gnO ((x, b), w, 1) = (gnF 1 w.toNat b).2.2 := rfl
  rw [e]
  by_cases h : (gnF 1 w.toNat b).2.2 = true
  · rw [if_pos h, if_pos h]; rfl
  · rw [if_neg h, if_neg h]
theorem ap_if {α β : Type} {p : Prop} [Decidable p] (f g : α → β) (x : α) : (if p then f else g) x = if p then f x else g x := by
  by_cases h : p
  · rw [if_pos h, if_pos h]
  · rw [if_neg h, if_neg h]
/-- A step, read. -/
def stM (k : Int) : PR Step_T := if k = 1 then (bnd (pN 2) fun v0 => bnd (pG 2 4) fun v1 => rt (k, 0, v0, 0, 0, 0, 0, [], (noI v1, v1))) else if k = 2 then (bnd (pN 1) fun v0 => rt (k, v0, 0, 0, 0, 0, 0, [], (true, []))) else if k = 3 then (bnd (pN 1) fun v0 => bnd pT fun v1 => rt (k, v0, 0, 0, 0, 0, 0, v1, (true, []))) else if k = 4 then (bnd (pN 1) fun v0 => bnd (pN 1) fun v1 => rt (k, v0, 0, v1, 0, 0, 0, [], (true, []))) else if k = 6 then (bnd (pN 1) fun v0 => bnd (pN 1) fun v1 => rt (k, v0, 0, v1, 0, 0, 0, [], (true, []))) else if k = 7 then (bnd (pN 1) fun v0 => bnd (pN 1) fun v1 => rt (k, v0, 0, v1, 0, 0, 0, [], (true, []))) else if k = 8 then (bnd (pN 1) fun v0 => bnd (pN 1) fun v1 => rt (k, v0, 0, v1, 0, 0, 0, [], (true, []))) else if k = 5 then (bnd (pN 1) fun v0 => bnd (pN 1) fun v1 => bnd (pN 1) fun v2 => bnd pT fun v3 => rt (k, v0, 0, v1, v2, 0, 0, v3, (true, []))) else if k = 12 then (bnd (pN 1) fun v0 => bnd (pN 2) fun v1 => rt (k, 0, 0, 0, 0, v0, v1, [], (true, []))) else if k = 14 then (bnd (pN 1) fun v0 => bnd (pN 1) fun v1 => if 20 < v1 then (fun _ => none) else bnd (pG 1 (v1.toNat)) fun v2 => rt (k, v0, 0, 0, 0, 0, 0, [], (noI v2, v2))) else (bnd (pN 1) fun v0 => rt (k, 0, 0, 0, 0, v0, 0, [], (true, [])))
theorem st_M (x : Bool) (b : List Int) (k : Int) : cM (stE ((x, b), k)) = stM k b := by
  unfold stE stM
  dsimp only
  simp only [cM_if, cM_s, cM_n, ap_if, bnd_1 x, bnd_2 x, bnd_T x, bnd_G2 x, bnd_G1 x, rt]
theorem Rd.none {α : Type} (E : α → List Int → Prop) : Rd (fun _ => none : PR α) E := fun _ _ _ _ h => by cases h
theorem Rd.iff {α : Type} {p : Prop} [Decidable p] {f g : PR α} {E : α → List Int → Prop} (h1 : p → Rd f E) (h2 : ¬ p → Rd g E) : Rd (if p then f else g) E := by
  by_cases h : p
  · rw [if_pos h]; exact h1 h
  · rw [if_neg h]; exact h2 h
theorem st_rd (k : Int) (h1 : 1 ≤ k) (h2 : k ≤ 14) : Rd (stM k) (fun s p => s.1 = k ∧ p = bdE s) := by
  unfold stM
  by_cases c0 : k = 1
  · subst c0
    rw [if_pos rfl]
    refine (Rd.bind Rd.n2 fun v0 _ h0 => Rd.bind (Rd.g2 _) fun v1 _ _ => Rd.ret _).mono ?_
    rintro s p ⟨v0, p0, q0, rfl, rfl, ⟨v1, p1, q1, rfl, ⟨rfl, h1⟩, ⟨rfl, rfl⟩⟩⟩
    skip
    exact ⟨rfl, by simp [bdE, e2B]⟩
  by_cases c1 : k = 2
  · subst c1
    rw [if_neg (by decide), if_pos rfl]
    refine (Rd.bind Rd.n1 fun v0 _ h0 => Rd.ret _).mono ?_
    rintro s p ⟨v0, p0, q0, rfl, ⟨rfl, h0a, h0b⟩, ⟨rfl, rfl⟩⟩
    skip
    exact ⟨rfl, by simp [bdE, e2B]⟩
  by_cases c2 : k = 3
  · subst c2
    rw [if_neg (by decide), if_neg (by decide), if_pos rfl]
    refine (Rd.bind Rd.n1 fun v0 _ h0 => Rd.bind Rd.tx fun v1 _ h1 => Rd.ret _).mono ?_
    rintro s p ⟨v0, p0, q0, rfl, ⟨rfl, h0a, h0b⟩, ⟨v1, p1, q1, rfl, ⟨rfl, h1⟩, ⟨rfl, rfl⟩⟩⟩
    skip
    exact ⟨rfl, by simp [bdE, e2B]⟩
  by_cases c3 : k = 4
  · subst c3
    rw [if_neg (by decide), if_neg (by decide), if_neg (by decide), if_pos rfl]
    refine (Rd.bind Rd.n1 fun v0 _ h0 => Rd.bind Rd.n1 fun v1 _ h1 => Rd.ret _).mono ?_
    rintro s p ⟨v0, p0, q0, rfl, ⟨rfl, h0a, h0b⟩, ⟨v1, p1, q1, rfl, ⟨rfl, h1a, h1b⟩, ⟨rfl, rfl⟩⟩⟩
    skip
    exact ⟨rfl, by simp [bdE, e2B]⟩
  by_cases c4 : k = 6
  · subst c4
    rw [if_neg (by decide), if_neg (by decide), if_neg (by decide), if_neg (by decide), if_pos rfl]
    refine (Rd.bind Rd.n1 fun v0 _ h0 => Rd.bind Rd.n1 fun v1 _ h1 => Rd.ret _).mono ?_
    rintro s p ⟨v0, p0, q0, rfl, ⟨rfl, h0a, h0b⟩, ⟨v1, p1, q1, rfl, ⟨rfl, h1a, h1b⟩, ⟨rfl, rfl⟩⟩⟩
    skip
    exact ⟨rfl, by simp [bdE, e2B]⟩
  by_cases c5 : k = 7
  · subst c5
    rw [if_neg (by decide), if_neg (by decide), if_neg (by decide), if_neg (by decide), if_neg (by decide), if_pos rfl]
    refine (Rd.bind Rd.n1 fun v0 _ h0 => Rd.bind Rd.n1 fun v1 _ h1 => Rd.ret _).mono ?_
    rintro s p ⟨v0, p0, q0, rfl, ⟨rfl, h0a, h0b⟩, ⟨v1, p1, q1, rfl, ⟨rfl, h1a, h1b⟩, ⟨rfl, rfl⟩⟩⟩
    skip
    exact ⟨rfl, by simp [bdE, e2B]⟩
  by_cases c6 : k = 8
  · subst c6
    rw [if_neg (by decide), if_neg (by decide), if_neg (by decide), if_neg (by decide), if_neg (by decide), if_neg (by decide), if_pos rfl]
    refine (Rd.bind Rd.n1 fun v0 _ h0 => Rd.bind Rd.n1 fun v1 _ h1 => Rd.ret _).mono ?_
    rintro s p ⟨v0, p0, q0, rfl, ⟨rfl, h0a, h0b⟩, ⟨v1, p1, q1, rfl, ⟨rfl, h1a, h1b⟩, ⟨rfl, rfl⟩⟩⟩
    skip
    exact ⟨rfl, by simp [bdE, e2B]⟩
  by_cases c7 : k = 5
  · subst c7
    rw [if_neg (by decide), if_neg (by decide), if_neg (by decide), if_neg (by decide), if_neg (by decide), if_neg (by decide), if_neg (by decide), if_pos rfl]
    refine (Rd.bind Rd.n1 fun v0 _ h0 => Rd.bind Rd.n1 fun v1 _ h1 => Rd.bind Rd.n1 fun v2 _ h2 => Rd.bind Rd.tx fun v3 _ h3 => Rd.ret _).mono ?_
    rintro s p ⟨v0, p0, q0, rfl, ⟨rfl, h0a, h0b⟩, ⟨v1, p1, q1, rfl, ⟨rfl, h1a, h1b⟩, ⟨v2, p2, q2, rfl, ⟨rfl, h2a, h2b⟩, ⟨v3, p3, q3, rfl, ⟨rfl, h3⟩, ⟨rfl, rfl⟩⟩⟩⟩⟩
    skip
    exact ⟨rfl, by simp [bdE, e2B]⟩
  by_cases c8 : k = 12
  · subst c8
    rw [if_neg (by decide), if_neg (by decide), if_neg (by decide), if_neg (by decide), if_neg (by decide), if_neg (by decide), if_neg (by decide), if_neg (by decide), if_pos rfl]
    refine (Rd.bind Rd.n1 fun v0 _ h0 => Rd.bind Rd.n2 fun v1 _ h1 => Rd.ret _).mono ?_
    rintro s p ⟨v0, p0, q0, rfl, ⟨rfl, h0a, h0b⟩, ⟨v1, p1, q1, rfl, rfl, ⟨rfl, rfl⟩⟩⟩
    skip
    exact ⟨rfl, by simp [bdE, e2B]⟩
  by_cases c9 : k = 14
  · subst c9
    rw [if_neg (by decide), if_neg (by decide), if_neg (by decide), if_neg (by decide), if_neg (by decide), if_neg (by decide), if_neg (by decide), if_neg (by decide), if_neg (by decide), if_pos rfl]
    refine (Rd.bind Rd.n1 fun v0 _ h0 => Rd.bind Rd.n1 fun v1 _ h1 => Rd.iff (fun c => Rd.none _) (fun c => Rd.bind (Rd.g1 _) fun v2 _ _ => Rd.ret _)).mono ?_
    rintro s p ⟨v0, p0, q0, rfl, ⟨rfl, h0a, h0b⟩, ⟨v1, p1, q1, rfl, ⟨rfl, h1a, h1b⟩, ⟨v2, p2, q2, rfl, ⟨rfl, h2⟩, ⟨rfl, rfl⟩⟩⟩⟩
    have e : (v2.length : Int) = v1 := by omega
    exact ⟨rfl, by simp [bdE, e2B, e]⟩
  rw [if_neg c0, if_neg c1, if_neg c2, if_neg c3, if_neg c4, if_neg c5, if_neg c6, if_neg c7, if_neg c8, if_neg c9]
  refine (Rd.bind Rd.n1 fun v0 _ h0 => Rd.ret _).mono ?_
  rintro s p ⟨v0, p0, q0, rfl, ⟨rfl, h0a, h0b⟩, ⟨rfl, rfl⟩⟩
  skip
  exact ⟨rfl, by simp [bdE, e2B, c0, c1, c2, c3, c4, c5, c6, c7, c8, c9]⟩

end Go.Proofs.Ytmjgiplgghmapaa
