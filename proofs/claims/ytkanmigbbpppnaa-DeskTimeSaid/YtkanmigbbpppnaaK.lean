/- A part of the proof: contracts of functions. -/
import Derived.Test.YtkanmigbbpppnaaJ
import Derived.Test.YtkanmigbbpppnaaAbAny

set_option linter.unusedVariables false
set_option linter.unusedSimpArgs false
set_option maxRecDepth 100000
namespace Go.Proofs.Ytkanmigbbpppnaa
open Go Go.Ab
def sameK (w t : Lease_T) : Prop := w.1 = t.1 ∧ w.2.1 = t.2.1
theorem upF_not {t y : Lease_T} (h : ¬ sameK y t) : upF t y = t := if_neg h
theorem upN_none : ∀ {l : List Lease_T} {t : Lease_T}, (∀ w ∈ l, ¬ sameK w t) → upN l t = t
 | [], t, _ => rfl
 | y :: r, t, h => by
  show upN r (upF t y) = t
  rw [upF_not (h y List.mem_cons_self)]
  exact upN_none fun w hw => h w (List.mem_cons_of_mem _ hw)
theorem upN_mem : ∀ {l : List Lease_T} {t w : Lease_T}, Srt l → w ∈ l → sameK w t → upN l t = (t.1, t.2.1, maxI t.2.2.1 w.2.2.1, maxI t.2.2.2 w.2.2.2)
 | [], t, w, _, h, _ => by cases h
 | y :: r, t, w, hs, hw, hk => by
  obtain ⟨h1, h2⟩ := List.pairwise_cons.1 hs
  show upN r (upF t y) = _
  rcases List.mem_cons.1 hw with rfl | hw
  ·have : upF t w = (t.1, t.2.1, maxI t.2.2.1 w.2.2.1, maxI t.2.2.2 w.2.2.2) := if_pos hk
   rw [this]
   refine upN_none fun v hv hsv => ?_
   have q := h1 v hv
   unfold sameK at hk hsv
   unfold LT at q
   simp only at hsv
   omega
  ·have hny : ¬ sameK y t := fun hsy => by
    have q := h1 w hw
    unfold sameK at hk hsy
    unfold LT at q
    omega
   rw [upF_not hny]
   exact upN_mem h2 hw hk
theorem srt_eq : ∀ {a b : List Lease_T}, Srt a → Srt b → (∀ w, w ∈ a ↔ w ∈ b) → a = b
 | [], [], _, _, _ => rfl
 | [], y :: r, _, _, h => by have := (h y).2 List.mem_cons_self; cases this
 | x :: r, [], _, _, h => by have := (h x).1 List.mem_cons_self; cases this
 | x :: r, y :: s, ha, hb, h => by
  obtain ⟨a1, a2⟩ := List.pairwise_cons.1 ha
  obtain ⟨b1, b2⟩ := List.pairwise_cons.1 hb
  have hxy : x = y := by
   rcases List.mem_cons.1 ((h x).1 List.mem_cons_self) with e | e
   ·exact e
   ·rcases List.mem_cons.1 ((h y).2 List.mem_cons_self) with e' | e'
    ·exact e'.symm
    ·have q := b1 x e
     have q' := a1 y e'
     unfold LT at q q'
     omega
  subst hxy
  have hx : ∀ s : List Lease_T, (∀ w ∈ s, LT x w) → x ∉ s := fun s hs hm => by
   have q := hs x hm
   unfold LT at q
   omega
  rw [srt_eq a2 b2 fun w => ⟨fun hw => ?_, fun hw => ?_⟩]
  ·rcases List.mem_cons.1 ((h w).1 (List.mem_cons_of_mem _ hw)) with e | e
   ·subst e; exact absurd hw (hx r a1)
   ·exact e
  ·rcases List.mem_cons.1 ((h w).2 (List.mem_cons_of_mem _ hw)) with e | e
   ·subst e; exact absurd hw (hx s b1)
   ·exact e
theorem maxI_comm (a b : Int) : maxI a b = maxI b a := by
 unfold maxI
 repeat' split
 all_goals omega
theorem gran_mem {l : List Lease_T} (h : Srt l) (t : Lease_T) : Srt (granQ l t) ∧ ∀ w, w ∈ granQ l t ↔ (w = upQ l t ∨ (w ∈ l ∧ ¬ sameK w t)) := by
 have e0 : granQ l t = if bsI l t = true then l.set (bsQ l t).toNat ((l.getD (bsQ l t).toNat zL).1, (l.getD (bsQ l t).toNat zL).2.1, maxI (l.getD (bsQ l t).toNat zL).2.2.1 t.2.2.1, maxI (l.getD (bsQ l t).toNat zL).2.2.2 t.2.2.2) else insL l t (bsQ l t) := rfl
 have eu : upQ l t = upN l t := rfl
 obtain ⟨n, p1, p2, p3⟩ := part_at h t
 have hq : bsQ l t = (n : Int) := by
  show ((bsN l t l.length 0 l.length : Nat) : Int) = n
  rw [bsN_spec p2 p3 _ _ _ (by omega) p1 (Nat.le_refl _) (by omega)]
 have hi : bsI l t = (decide ((n : Int) < (l.length : Int)) && decide (ordF (l.getD n zL) t = 0)) := by
  show (decide (bsQ l t < (l.length : Int)) && decide (ordF (l.getD (bsQ l t).toNat zL) t = 0)) = _
  rw [hq, Int.toNat_natCast]
 rw [e0, eu, hq, Int.toNat_natCast]
 cases hb : bsI l t with
 | true =>
  rw [hi] at hb
  simp only [Bool.and_eq_true, decide_eq_true_eq] at hb
  have hn : n < l.length := by omega
  rw [if_pos rfl]
  rw [getD_at hn] at hb ⊢
  have hk : sameK l[n] t := by have := ord_eq.1 hb.2; exact ⟨this.2, this.1⟩
  have hu := upN_mem h (List.getElem_mem hn) hk
  have ev : (l[n].1, l[n].2.1, maxI l[n].2.2.1 t.2.2.1, maxI l[n].2.2.2 t.2.2.2) = upN l t := by
   rw [hu, maxI_comm l[n].2.2.1, maxI_comm l[n].2.2.2, hk.1, hk.2]
  rw [ev]
  have hku : sameK (upN l t) t := by rw [hu]; exact ⟨rfl, rfl⟩
  have hsep : ∀ i (hi : i < l.length), i ≠ n → ¬ sameK l[i] t := fun i hi hne hs => hne (by
   have hp := List.pairwise_iff_getElem.1 h
   rcases Nat.lt_trichotomy i n with c | c | c
   ·have q := hp i n hi hn c
    unfold LT at q; unfold sameK at hs hk
    omega
   ·exact c
   ·have q := hp n i hn hi c
    unfold LT at q; unfold sameK at hs hk
    omega)
  refine ⟨?_, fun w => ⟨fun hw => ?_, fun hw => ?_⟩⟩
  ·refine List.pairwise_iff_getElem.2 fun i j hi hj hij => ?_
   have hp := List.pairwise_iff_getElem.1 h
   rw [List.length_set] at hi hj
   have q := hp i j hi hj hij
   rw [List.getElem_set, List.getElem_set]
   unfold sameK at hk hku
   split
   ·rename_i e; subst e
    rw [if_neg (by omega)]
    unfold LT at *
    omega
   ·split
    ·rename_i e; subst e
     unfold LT at *
     omega
    ·exact q
  ·obtain ⟨i, hi, rfl⟩ := List.getElem_of_mem hw
   rw [List.length_set] at hi
   rw [List.getElem_set]
   split
   ·exact .inl rfl
   ·rename_i e; exact .inr ⟨List.getElem_mem hi, hsep i hi (fun c => e c.symm)⟩
  ·rcases hw with rfl | ⟨hw, hs⟩
   ·exact List.mem_iff_getElem.2 ⟨n, by rw [List.length_set]; exact hn, by rw [List.getElem_set, if_pos rfl]⟩
   ·obtain ⟨i, hi, rfl⟩ := List.getElem_of_mem hw
    refine List.mem_iff_getElem.2 ⟨i, by rw [List.length_set]; exact hi, ?_⟩
    rw [List.getElem_set, if_neg (fun e => by subst e; exact hs hk)]
 | false =>
  rw [hi] at hb
  rw [if_neg (by simp)]
  have e1 : insL l t (n : Int) = l.take n ++ t :: l.drop n := by show l.take (n : Int).toNat ++ t :: l.drop (n : Int).toNat = _; rw [Int.toNat_natCast]
  rw [e1]
  have hA : ∀ w ∈ l.take n, LT w t := fun w hw => by
   obtain ⟨i, hi, rfl⟩ := List.getElem_of_mem hw
   rw [List.length_take] at hi
   have := p2 i (by omega)
   rw [getD_at (by omega), ord_lt] at this
   rw [List.getElem_take]; exact this
  have hnk : ∀ hn : n < l.length, ¬ sameK l[n] t := fun hn hs => by
   rw [decide_eq_true (show (n : Int) < (l.length : Int) by omega), getD_at hn, Bool.true_and] at hb
   exact of_decide_eq_false hb (ord_eq.2 ⟨hs.2, hs.1⟩)
  have hB : ∀ w ∈ l.drop n, LT t w := fun w hw => by
   obtain ⟨i, hi, rfl⟩ := List.getElem_of_mem hw
   rw [List.length_drop] at hi
   have hn : n < l.length := by omega
   have q := p3 n (Nat.le_refl _) hn
   rw [getD_at hn, ord_lt] at q
   have q2 := hnk hn
   rw [List.getElem_drop]
   by_cases h0 : i = 0
   ·subst h0
    show LT t l[n]
    unfold LT at *; unfold sameK at q2
    omega
   ·have q3 := List.pairwise_iff_getElem.1 h n (n + i) hn (by omega) (by omega)
    unfold LT at *; unfold sameK at q2
    omega
  have hsp : l.take n ++ l.drop n = l := List.take_append_drop n l
  have hs' : (l.take n ++ l.drop n).Pairwise LT := by rw [hsp]; exact h
  obtain ⟨s1, s2, s3⟩ := List.pairwise_append.1 hs'
  have hno : ∀ w ∈ l, ¬ sameK w t := fun w hw hs => by
   rw [← hsp, List.mem_append] at hw
   rcases hw with hw | hw
   ·have := hA w hw
    unfold LT at this; unfold sameK at hs
    omega
   ·have := hB w hw
    unfold LT at this; unfold sameK at hs
    omega
  rw [upN_none hno]
  refine ⟨?_, fun w => ?_⟩
  ·show (l.take n ++ t :: l.drop n).Pairwise LT
   rw [List.pairwise_append]
   refine ⟨s1, List.pairwise_cons.2 ⟨hB, s2⟩, fun a ha b hb => ?_⟩
   rcases List.mem_cons.1 hb with rfl | hb
   ·exact hA a ha
   ·exact s3 a ha b hb
  ·rw [List.mem_append, List.mem_cons]
   constructor
   ·rintro (hw | hw | hw)
    ·have : w ∈ l := List.mem_of_mem_take hw
     exact .inr ⟨this, hno w this⟩
    ·exact .inl hw
    ·have : w ∈ l := List.mem_of_mem_drop hw
     exact .inr ⟨this, hno w this⟩
   ·rintro (hw | ⟨hw, _⟩)
    ·exact .inr (.inl hw)
    ·rw [← hsp, List.mem_append] at hw
     rcases hw with hw | hw
     ·exact .inl hw
     ·exact .inr (.inr hw)
theorem gran_eq {l : List Lease_T} (h : LInv l) {t : Lease_T} (ht : okE t = true) : granQ l t = grefQ l t := by
 obtain ⟨a, b⟩ := gran_mem h.srt t
 obtain ⟨c, d⟩ := gref_inv h ht
 exact srt_eq a c.srt fun w => (b w).trans (d w).symm
theorem gran_inv {l : List Lease_T} (h : LInv l) {t : Lease_T} (ht : okE t = true) : LInv (granQ l t) := by
 rw [gran_eq h ht]; exact (gref_inv h ht).1
theorem gran_len {l : List Lease_T} (h : LInv l) {t : Lease_T} (ht : okE t = true) : l.length ≤ (granQ l t).length ∧ (granQ l t).length ≤ l.length + 1 := by
 refine ⟨?_, by rw [gran_eq h ht]; exact (gref_len l t).1⟩
 have e0 : granQ l t = if bsI l t = true then l.set (bsQ l t).toNat ((l.getD (bsQ l t).toNat zL).1, (l.getD (bsQ l t).toNat zL).2.1, maxI (l.getD (bsQ l t).toNat zL).2.2.1 t.2.2.1, maxI (l.getD (bsQ l t).toNat zL).2.2.2 t.2.2.2) else insL l t (bsQ l t) := rfl
 rw [e0]
 split
 ·rw [List.length_set]; exact Nat.le_refl _
 ·rw [insL_len]; omega
theorem hold_gran {l : List Lease_T} (h : Srt l) (t : Lease_T) (now c f : Int) : holdQ (granQ l t) now c f = if t.1 = c ∧ t.2.1 = f then valF now (upQ l t) else holdQ l now c f := by
 obtain ⟨a, b⟩ := gran_mem h t
 have hk : (upQ l t).1 = t.1 ∧ (upQ l t).2.1 = t.2.1 := upN_key l t
 split
 ·rename_i e
  exact (hold_mem a ((b _).2 (.inl rfl)) ⟨hk.1.trans e.1, hk.2.trans e.2⟩ now).2.2
 ·rename_i e
  by_cases hx : ∃ w ∈ l, keyE w c f
  ·obtain ⟨w, hw, hkw⟩ := hx
   rw [(hold_mem h hw hkw now).2.2]
   exact (hold_mem a ((b w).2 (.inr ⟨hw, fun hs => e ⟨hs.1.symm.trans hkw.1, hs.2.symm.trans hkw.2⟩⟩)) hkw now).2.2
  ·have hn : ∀ w ∈ l, ¬ keyE w c f := fun w hw hkw => hx ⟨w, hw, hkw⟩
   rw [(hold_none hn now).2]
   refine (hold_none (fun w hw hkw => ?_) now).2
   rcases (b w).1 hw with rfl | ⟨hw, _⟩
   ·exact e ⟨hk.1.symm.trans hkw.1, hk.2.symm.trans hkw.2⟩
   ·exact hn w hw hkw
theorem hold_ne {x : List Lease_T} (h : Srt x) {now c f : Int} (hn : holdQ x now c f ≠ 0) : ∃ w ∈ x, keyE w c f ∧ now < w.2.2.2 ∧ holdQ x now c f = w.2.2.1 := by
 by_cases hx : ∃ w ∈ x, keyE w c f
 ·obtain ⟨w, hw, hk⟩ := hx
  have e := (hold_mem h hw hk now).2.2
  rw [e] at hn
  unfold valF at hn e
  by_cases hu : w.2.2.2 ≤ now
  ·rw [if_pos hu] at hn; exact absurd rfl hn
  ·rw [if_neg hu] at e
   exact ⟨w, hw, hk, by omega, e⟩
 ·exact absurd (hold_none (fun w hw hk => hx ⟨w, hw, hk⟩) now).2 hn
theorem maxI_le (a b : Int) : a ≤ maxI a b ∧ b ≤ maxI a b := by
 unfold maxI
 split <;> omega

end Go.Proofs.Ytkanmigbbpppnaa
