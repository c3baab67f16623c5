/- A part of the proof: contracts of functions. -/
import Derived.Test.YtmjgiplgghmapaaM
import Derived.Test.YtmjgiplgghmapaaAbAny

set_option linter.unusedVariables false
set_option linter.unusedSimpArgs false
set_option maxRecDepth 100000
namespace Go.Proofs.Ytmjgiplgghmapaa
open Go Go.Ab
set_option maxHeartbeats 8000000
/-- A reader: what it reads, and what is left. -/
abbrev PR (α : Type) : Type := List Int → Option (α × List Int)
/-- It reads a front that says what is read, whatever stands behind; and no less. -/
def Rd {α : Type} (f : PR α) (E : α → List Int → Prop) : Prop := ∀ b a r, byt b → f b = some (a, r) → ∃ p, b = p ++ r ∧ E a p ∧ (∀ r', f (p ++ r') = some (a, r')) ∧ ∀ q, q <+: p → q ≠ p → f q = none
def bnd {α β : Type} (f : PR α) (g : α → PR β) : PR β := fun b => match f b with
  | some (a, r) => g a r
  | none => none
def rt {α : Type} (a : α) : PR α := fun b => some (a, b)
theorem Rd.ret {α : Type} (a : α) : Rd (rt a) (fun c p => c = a ∧ p = []) := fun b c r _ h => by
  cases h
  exact ⟨[], rfl, ⟨rfl, rfl⟩, fun r' => rfl, fun q hq hn => absurd (List.prefix_nil.1 hq) hn⟩
theorem Rd.bind {α β : Type} {f : PR α} {E : α → List Int → Prop} {g : α → PR β} {G : α → β → List Int → Prop} (hf : Rd f E) (hg : ∀ a p, E a p → Rd (g a) (G a)) : Rd (bnd f g) (fun c p => ∃ a p1 p2, p = p1 ++ p2 ∧ E a p1 ∧ G a c p2) := fun b c r hb h => by
  unfold bnd at h
  cases hf1 : f b with
  | none => rw [hf1] at h; cases h
  | some ar =>
    obtain ⟨a, r1⟩ := ar
    rw [hf1] at h
    obtain ⟨p1, e1, k1, k2, k3⟩ := hf b a r1 hb hf1
    have hb1 : byt r1 := fun v hv => hb v (by rw [e1]; exact List.mem_append_right _ hv)
    obtain ⟨p2, e2, m1, m2, m3⟩ := hg a p1 k1 r1 c r hb1 h
    refine ⟨p1 ++ p2, by rw [e1, e2, List.append_assoc], ⟨a, p1, p2, rfl, k1, m1⟩, fun r' => ?_, fun q hq hn => ?_⟩
    · unfold bnd
      rw [List.append_assoc, k2]
      exact m2 r'
    · unfold bnd
      by_cases hl : q.length < p1.length
      · have h1 : q <+: p1 := by
          obtain ⟨t, ht⟩ := hq
          exact List.prefix_of_prefix_length_le ⟨t, ht⟩ ⟨p2, rfl⟩ (by omega)
        rw [k3 q h1 (fun e => by rw [e] at hl; omega)]
      · have h1 : p1 <+: q := List.prefix_of_prefix_length_le ⟨p2, rfl⟩ hq (by omega)
        obtain ⟨q2, rfl⟩ := h1
        rw [k2 q2]
        have h2 : q2 <+: p2 := (List.prefix_append_right_inj p1).1 hq
        exact m3 q2 h2 (fun e => hn (by rw [e]))
theorem Rd.mono {α : Type} {f : PR α} {E E' : α → List Int → Prop} (h : Rd f E) (he : ∀ a p, E a p → E' a p) : Rd f E' := fun b a r hb hf => by
  obtain ⟨p, h1, h2, h3⟩ := h b a r hb hf
  exact ⟨p, h1, he a p h2, h3⟩
def pN (n : Nat) : PR Int := fun b => if n ≤ b.length then some (tkF (b.take n), b.drop n) else none
theorem Rd.num (n : Nat) {E : Int → List Int → Prop} (he : ∀ p, byt p → p.length = n → E (tkF p) p) : Rd (pN n) E := fun b a r hb h => by
  unfold pN at h
  split at h
  · next hn =>
    cases h
    have hl : (b.take n).length = n := by rw [List.length_take]; omega
    refine ⟨b.take n, (List.take_append_drop n b).symm, he _ (byt_take hb n) hl, fun r' => ?_, fun q hq hne => ?_⟩
    · unfold pN
      rw [if_pos (by rw [List.length_append]; omega), List.take_left' hl, List.drop_left' hl]
    · unfold pN
      have h1 := hq.length_le
      have h2 : q.length ≠ (b.take n).length := fun e => hne (hq.eq_of_length e)
      rw [if_neg (by omega)]
  · cases h
theorem num1 (p : List Int) (hb : byt p) (hl : p.length = 1) : p = [wB (tkF p)] ∧ 0 ≤ tkF p ∧ tkF p < 256 := by
  match p, hl with
  | [a], _ =>
    have h := hb a (by simp)
    have e : tkF [a] = a := by show 0 * 256 + a = a; omega
    rw [e, wB_eq]
    exact ⟨by rw [Int.emod_eq_of_lt h.1 h.2], h⟩
theorem num2 (p : List Int) (hb : byt p) (hl : p.length = 2) : p = e2B (tkF p) := by
  match p, hl with
  | [a, c], _ =>
    have h := hb a (by simp)
    have h' := hb c (by simp)
    have e : tkF [a, c] = a * 256 + c := by show (0 * 256 + a) * 256 + c = _; omega
    rw [e]
    unfold e2B
    rw [wB_eq, wB_eq, Int.fdiv_eq_ediv_of_nonneg _ (by decide)]
    congr 1
    · omega
    · congr 1
      omega
theorem Rd.n1 : Rd (pN 1) (fun v p => p = [wB v] ∧ 0 ≤ v ∧ v < 256) := Rd.num 1 num1
theorem Rd.n2 : Rd (pN 2) (fun v p => p = e2B v) := Rd.num 2 num2
def pT : PR (List UInt8) := fun b => if (ttL b).2.2 = true then some ((ttL b).1, b.drop (ttL b).2.1.toNat) else none
theorem toU (t : List Int) (h : byt t) : (t.map fun n => UInt8.ofNat n.toNat).map (fun c => (c.toNat : Int)) = t := by
  rw [List.map_map]
  conv => rhs; rw [← List.map_id t]
  refine List.map_congr_left fun v hv => ?_
  have := h v hv
  show ((UInt8.ofNat v.toNat).toNat : Int) = v
  rw [UInt8.toNat_ofNat']
  omega
theorem Rd.tx : Rd pT (fun t p => p = txE t ∧ t.length ≤ 255) := fun b a r hb h => by
  unfold pT at h
  have hg := byt_get hb
  by_cases hc : 1 ≤ b.length ∧ b.getD 0 0 + 1 ≤ (b.length : Int)
  · rw [ttL_yes hc, if_pos rfl] at h
    cases h
    match b, hc with
    | n :: t, hc =>
      have hc2 : n + 1 ≤ ((t.length + 1 : Nat) : Int) := hc.2
      have hg : 0 ≤ n ∧ n < 256 := hg
      obtain ⟨m, rfl⟩ := Int.eq_ofNat_of_zero_le hg.1
      have ht : byt t := fun v hv => hb v (List.mem_cons_of_mem _ hv)
      have hl : (t.take m).length = m := by rw [List.length_take]; omega
      have e1 : ((m : Int) + 1).toNat = m + 1 := by omega
      have key : ∀ r' : List Int, ttL ((m : Int) :: (t.take m ++ r')) = ((t.take m).map (fun n => UInt8.ofNat n.toNat), (m : Int) + 1, true) := fun r' => by
        have h1 : 1 ≤ ((m : Int) :: (t.take m ++ r')).length ∧ ((m : Int) :: (t.take m ++ r')).getD 0 0 + 1 ≤ (((m : Int) :: (t.take m ++ r')).length : Int) := by
          refine ⟨by simp, ?_⟩
          show (m : Int) + 1 ≤ (((m : Int) :: (t.take m ++ r')).length : Int)
          rw [List.length_cons, List.length_append, hl]
          omega
        rw [ttL_yes h1]
        show (((t.take m ++ r').take (m : Int).toNat).map (fun n => UInt8.ofNat n.toNat), (m : Int) + 1, true) = _
        rw [Int.toNat_natCast, List.take_left' hl]
      refine ⟨(m : Int) :: t.take m, ?_, ⟨?_, ?_⟩, fun r' => ?_, fun q hq hne => ?_⟩
      · show _ = (m : Int) :: (t.take m ++ ((m : Int) :: t).drop ((m : Int) + 1).toNat)
        rw [e1, List.drop_succ_cons, List.take_append_drop]
      · show _ = txE ((t.take (m : Int).toNat).map fun n => UInt8.ofNat n.toNat)
        unfold txE
        rw [Int.toNat_natCast, if_pos (by rw [List.length_map, hl]; omega), toU _ (byt_take ht m), List.length_map, hl, wB_eq, Int.emod_eq_of_lt (by omega) (by omega)]
      · show ((t.take (m : Int).toNat).map fun n => UInt8.ofNat n.toNat).length ≤ 255
        rw [Int.toNat_natCast, List.length_map, hl]; omega
      · unfold pT
        rw [List.cons_append, key r', if_pos rfl]
        show some ((t.take m).map (fun n => UInt8.ofNat n.toNat), ((m : Int) :: (t.take m ++ r')).drop ((m : Int) + 1).toNat) = _
        rw [e1, List.drop_succ_cons, List.drop_left' hl]
        show _ = some (((t.take (m : Int).toNat).map fun n => UInt8.ofNat n.toNat), r')
        rw [Int.toNat_natCast]
      · unfold pT
        have h1 := hq.length_le
        have h2 : q.length ≠ ((m : Int) :: t.take m).length := fun e => hne (hq.eq_of_length e)
        rw [List.length_cons, hl] at h1 h2
        match q, hq with
        | [], _ => rfl
        | c :: q', hq =>
          have hc' : c = (m : Int) := (List.cons_prefix_cons.1 hq).1
          subst hc'
          rw [ttL_no]
          · rfl
          · rintro ⟨_, k2⟩
            have k2 : (m : Int) + 1 ≤ (((m : Int) :: q').length : Int) := k2
            rw [List.length_cons] at k2 h1 h2
            omega
  · rw [ttL_no hc] at h
    cases h
def pG (n : Nat) : Nat → PR (List Int)
  | 0 => rt []
  | m + 1 => bnd (pN n) fun v => bnd (pG n m) fun l => rt (v :: l)
theorem pG_eq (n : Nat) : ∀ (m : Nat) (b : List Int), pG n m b = if (gnF n m b).2.2 = true then some ((gnF n m b).1, (gnF n m b).2.1) else none
  | 0, b => rfl
  | m + 1, b => by
    show bnd (pN n) (fun v => bnd (pG n m) fun l => rt (v :: l)) b = _
    unfold bnd pN gnF
    by_cases h : n ≤ b.length
    · rw [if_pos h, if_pos h]
      dsimp only
      rw [pG_eq n m]
      by_cases h2 : (gnF n m (b.drop n)).2.2 = true
      · rw [if_pos h2, if_pos h2]; rfl
      · rw [if_neg h2, if_neg h2]
    · rw [if_neg h, if_neg h]; rfl
theorem Rd.g1 : ∀ m : Nat, Rd (pG 1 m) (fun g p => p = g.map wB ∧ g.length = m)
  | 0 => (Rd.ret []).mono fun g p ⟨h1, h2⟩ => by subst h1 h2; exact ⟨rfl, rfl⟩
  | m + 1 => (Rd.bind Rd.n1 fun v _ _ => Rd.bind (Rd.g1 m) fun l _ _ => Rd.ret (v :: l)).mono fun g p h => by
    obtain ⟨v, p1, p2, rfl, ⟨rfl, _⟩, l, p3, p4, rfl, ⟨rfl, h3⟩, rfl, rfl⟩ := h
    exact ⟨by simp, by simp [h3]⟩
theorem Rd.g2 : ∀ m : Nat, Rd (pG 2 m) (fun g p => p = g.flatMap e2B ∧ g.length = m)
  | 0 => (Rd.ret []).mono fun g p ⟨h1, h2⟩ => by subst h1 h2; exact ⟨rfl, rfl⟩
  | m + 1 => (Rd.bind Rd.n2 fun v _ _ => Rd.bind (Rd.g2 m) fun l _ _ => Rd.ret (v :: l)).mono fun g p h => by
    obtain ⟨v, p1, p2, rfl, rfl, l, p3, p4, rfl, ⟨rfl, h3⟩, rfl, rfl⟩ := h
    exact ⟨by simp, by simp [h3]⟩

end Go.Proofs.Ytmjgiplgghmapaa
