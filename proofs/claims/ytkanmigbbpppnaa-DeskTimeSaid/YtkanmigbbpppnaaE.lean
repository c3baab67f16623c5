/- A part of the proof: contracts of functions. -/
import Derived.Test.YtkanmigbbpppnaaC
import Derived.Test.YtkanmigbbpppnaaAbAny

set_option linter.unusedVariables false
set_option linter.unusedSimpArgs false
set_option maxRecDepth 100000
namespace Go.Proofs.Ytkanmigbbpppnaa
open Go Go.Ab
def LT (a b : Lease_T) : Prop := a.2.1 < b.2.1 ∨ (a.2.1 = b.2.1 ∧ a.1 < b.1)
theorem ord_lt {a b : Lease_T} : ordF a b < 0 ↔ LT a b := by
 unfold ordF LT
 repeat' split
 all_goals (constructor <;> intro h <;> omega)
theorem ord_eq {a b : Lease_T} : ordF a b = 0 ↔ (a.2.1 = b.2.1 ∧ a.1 = b.1) := by
 unfold ordF
 repeat' split
 all_goals (constructor <;> intro h <;> omega)
def Srt (l : List Lease_T) : Prop := l.Pairwise LT
theorem bsN_spec {l : List Lease_T} {t : Lease_T} {n : Nat} (h1 : ∀ k, k < n → ordF (l.getD k zL) t < 0) (h2 : ∀ k, n ≤ k → k < l.length → ¬ ordF (l.getD k zL) t < 0) : ∀ k i j, i ≤ n → n ≤ j → j ≤ l.length → j - i ≤ k → bsN l t k i j = n
 | 0, i, j, a, b, c, d => by unfold bsN; omega
 | k + 1, i, j, a, b, c, d => by
  unfold bsN
  by_cases hij : i < j
  ·rw [if_pos hij]
   by_cases h : ordF (l.getD ((i + j) / 2) zL) t < 0
   ·rw [if_pos h]
    have : (i + j) / 2 < n := Classical.byContradiction fun hn => h2 _ (by omega) (by omega) h
    exact bsN_spec h1 h2 k _ j (by omega) b c (by omega)
   ·rw [if_neg h]
    have : n ≤ (i + j) / 2 := Classical.byContradiction fun hn => h (h1 _ (by omega))
    exact bsN_spec h1 h2 k i _ a this (by omega) (by omega)
  ·rw [if_neg hij]; omega
theorem part_at {l : List Lease_T} (h : Srt l) (t : Lease_T) : ∃ n, n ≤ l.length ∧ (∀ k, k < n → ordF (l.getD k zL) t < 0) ∧ ∀ k, n ≤ k → k < l.length → ¬ ordF (l.getD k zL) t < 0 := by
 induction l with
 | nil => exact ⟨0, by simp, fun k hk => by omega, fun k _ hk => by simp at hk⟩
 | cons a r ih =>
  obtain ⟨h1, h2⟩ := List.pairwise_cons.1 h
  by_cases ha : ordF a t < 0
  ·obtain ⟨n, p1, p2, p3⟩ := ih h2
   refine ⟨n + 1, by simp; omega, fun k hk => ?_, fun k hk hl => ?_⟩
   ·cases k with
    | zero => simpa using ha
    | succ k => simpa using p2 k (by omega)
   ·cases k with
    | zero => omega
    | succ k => simpa using p3 k (by omega) (by simpa using hl)
  ·refine ⟨0, by omega, fun k hk => by omega, fun k _ hl hk => ha ?_⟩
   cases k with
   | zero => simpa using hk
   | succ k =>
    have hk' : k < r.length := by simpa using hl
    have : (a :: r).getD (k + 1) zL = r[k] := by simp [List.getD, hk']
    rw [this] at hk
    have q := h1 _ (List.getElem_mem hk')
    rw [ord_lt] at hk ⊢
    unfold LT at *
    omega
def keyE (w : Lease_T) (c f : Int) : Prop := w.1 = c ∧ w.2.1 = f
def valF (now : Int) (w : Lease_T) : Int := if w.2.2.2 ≤ now then 0 else w.2.2.1
theorem hold_mem {l : List Lease_T} (h : Srt l) {w : Lease_T} (hw : w ∈ l) {c f : Int} (hk : keyE w c f) (now : Int) : bsI l (c, f, 0, 0) = true ∧ l.getD (bsQ l (c, f, 0, 0)).toNat zL = w ∧ holdQ l now c f = valF now w := by
 obtain ⟨n, p1, p2, p3⟩ := part_at h (c, f, 0, 0)
 have hq : bsQ l (c, f, 0, 0) = (n : Int) := by
  show ((bsN l (c, f, 0, 0) l.length 0 l.length : Nat) : Int) = n
  rw [bsN_spec p2 p3 _ _ _ (by omega) p1 (Nat.le_refl _) (by omega)]
 obtain ⟨m, hm, hmw⟩ := List.getElem_of_mem hw
 have hmd : l.getD m zL = w := by rw [getD_at hm, hmw]
 have k0 : ordF w (c, f, 0, 0) = 0 := ord_eq.2 ⟨hk.2, hk.1⟩
 have hnm : n ≤ m := Classical.byContradiction fun hc => by
  have := p2 m (by omega)
  rw [hmd] at this
  omega
 have hmn : m = n := by
  rcases Nat.lt_or_ge n m with hlt | hge
  ·exfalso
   have hn : n < l.length := by omega
   have q : LT l[n] l[m] := List.pairwise_iff_getElem.1 h n m hn hm hlt
   refine p3 n (Nat.le_refl _) hn ?_
   rw [getD_at hn, ord_lt]
   rw [hmw] at q
   unfold LT at *
   have := hk.1
   have := hk.2
   show l[n].2.1 < f ∨ (l[n].2.1 = f ∧ l[n].1 < c)
   omega
  ·omega
 subst hmn
 have hi : bsI l (c, f, 0, 0) = true := by
  show (decide (bsQ l (c, f, 0, 0) < (l.length : Int)) && decide (ordF (l.getD (bsQ l (c, f, 0, 0)).toNat zL) (c, f, 0, 0) = 0)) = true
  rw [hq, Int.toNat_natCast, hmd, k0, decide_eq_true (show (m : Int) < l.length by omega)]
  rfl
 have hg : l.getD (bsQ l (c, f, 0, 0)).toNat zL = w := by rw [hq, Int.toNat_natCast, hmd]
 refine ⟨hi, hg, ?_⟩
 show (if bsI l (c, f, 0, 0) = true then (if (l.getD (bsQ l (c, f, 0, 0)).toNat zL).2.2.2 ≤ now then 0 else (l.getD (bsQ l (c, f, 0, 0)).toNat zL).2.2.1) else 0) = _
 rw [if_pos hi, hg]
 rfl
theorem hold_none {l : List Lease_T} {c f : Int} (hn : ∀ w ∈ l, ¬ keyE w c f) (now : Int) : bsI l (c, f, 0, 0) = false ∧ holdQ l now c f = 0 := by
 have hi : bsI l (c, f, 0, 0) = false := by
  show (decide (bsQ l (c, f, 0, 0) < (l.length : Int)) && decide (ordF (l.getD (bsQ l (c, f, 0, 0)).toNat zL) (c, f, 0, 0) = 0)) = false
  have h0 : 0 ≤ bsQ l (c, f, 0, 0) := by show (0 : Int) ≤ ((bsN l (c, f, 0, 0) l.length 0 l.length : Nat) : Int); omega
  by_cases h1 : bsQ l (c, f, 0, 0) < (l.length : Int)
  ·have hlt : (bsQ l (c, f, 0, 0)).toNat < l.length := by omega
   rw [getD_at hlt, decide_eq_true h1]
   refine decide_eq_false fun h => ?_
   have := ord_eq.1 h
   exact hn _ (List.getElem_mem hlt) ⟨this.2, this.1⟩
  ·rw [decide_eq_false h1]; rfl
 refine ⟨hi, ?_⟩
 show (if bsI l (c, f, 0, 0) = true then (if (l.getD (bsQ l (c, f, 0, 0)).toNat zL).2.2.2 ≤ now then 0 else (l.getD (bsQ l (c, f, 0, 0)).toNat zL).2.2.1) else 0) = _
 rw [hi]
 rfl
theorem srt_uniq {l : List Lease_T} (h : Srt l) {a b : Lease_T} (ha : a ∈ l) (hb : b ∈ l) (e : a.1 = b.1 ∧ a.2.1 = b.2.1) : a = b := by
 obtain ⟨i, hi, rfl⟩ := List.getElem_of_mem ha
 obtain ⟨j, hj, rfl⟩ := List.getElem_of_mem hb
 have hp := List.pairwise_iff_getElem.1 h
 rcases Nat.lt_trichotomy i j with h1 | h1 | h1
 ·have := hp i j hi hj h1
  unfold LT at this
  omega
 ·subst h1; rfl
 ·have := hp j i hj hi h1
  unfold LT at this
  omega
structure LInv (l : List Lease_T) : Prop where
 srt : Srt l
 ok : ∀ w ∈ l, okE w = true
theorem LInv.filter {l : List Lease_T} (h : LInv l) (p : Lease_T → Bool) : LInv (l.filter p) := ⟨h.srt.filter p, fun w hw => h.ok w (List.mem_filter.1 hw).1⟩
theorem LInv.nil : LInv [] := ⟨List.Pairwise.nil, fun _ h => by cases h⟩
theorem mayN_of {l : List Lease_T} : ∀ (k i : Nat), (∀ m, i ≤ m → m < i + k → mayB l m = true) → mayN l k i = true
 | 0, _, _ => rfl
 | k + 1, i, h => by
  unfold mayN
  rw [h i (Nat.le_refl _) (by omega), mayN_of k (i + 1) (fun m h1 h2 => h m (by omega) (by omega))]
  rfl
theorem LInv.may {l : List Lease_T} (h : LInv l) : mayQ l = true := by
 refine mayN_of l.length 0 (fun m _ hm => ?_)
 have hm' : m < l.length := by omega
 unfold mayB
 rw [getD_at hm', h.ok _ (List.getElem_mem hm')]
 by_cases h0 : m = 0
 ·rw [decide_eq_true h0]; rfl
 ·have : ordF (l.getD (m - 1) zL) l[m] < 0 := by
   rw [getD_at (show m - 1 < l.length by omega), ord_lt]
   exact List.pairwise_iff_getElem.1 h.srt (m - 1) m (by omega) hm' (by omega)
  rw [decide_eq_true this, Bool.or_true]
  rfl
theorem okE_iff {w : Lease_T} : okE w = true ↔ (1 ≤ w.1 ∧ w.1 ≤ 3) ∧ (1 ≤ w.2.1 ∧ w.2.1 ≤ 6) ∧ (1 ≤ w.2.2.1 ∧ w.2.2.1 ≤ 2) ∧ 0 ≤ w.2.2.2 := by
 unfold okE
 simp only [Bool.and_eq_true, decide_eq_true_eq]
 omega
theorem upF_key (t y : Lease_T) : (upF t y).1 = t.1 ∧ (upF t y).2.1 = t.2.1 := by
 unfold upF
 split <;> exact ⟨rfl, rfl⟩
theorem upF_ok {t y : Lease_T} (ht : okE t = true) (hy : okE y = true) : okE (upF t y) = true := by
 unfold upF
 rw [okE_iff] at *
 split
 ·simp only [maxI]
  refine ⟨ht.1, ht.2.1, ?_, ?_⟩ <;> (repeat' split) <;> omega
 ·exact ht
theorem upN_key : ∀ (l : List Lease_T) (t : Lease_T), (upN l t).1 = t.1 ∧ (upN l t).2.1 = t.2.1
 | [], t => ⟨rfl, rfl⟩
 | y :: r, t => by
  have := upN_key r (upF t y)
  have h := upF_key t y
  exact ⟨this.1.trans h.1, this.2.trans h.2⟩
theorem upN_ok : ∀ {l : List Lease_T} {t : Lease_T}, (∀ w ∈ l, okE w = true) → okE t = true → okE (upN l t) = true
 | [], t, _, ht => ht
 | y :: r, t, hl, ht => upN_ok (l := r) (fun w hw => hl w (List.mem_cons_of_mem _ hw)) (upF_ok ht (hl y List.mem_cons_self))
theorem beh_lt {t w : Lease_T} : behF t w = true ↔ LT t w := by
 unfold behF LT
 simp only [Bool.or_eq_true, Bool.and_eq_true, decide_eq_true_eq]
 omega
theorem first_of {α : Type} (p : α → Bool) : ∀ (r : List α), (¬ ∀ a ∈ r, p a = false) → ∃ k, ∃ hk : k < r.length, p r[k] = true ∧ ∀ a ∈ r.take k, p a = false
 | [], hn => absurd (fun a ha => by cases ha) hn
 | a :: r, hn => by
  cases ha : p a with
  | true => exact ⟨0, by simp, ha, fun b hb => by simp at hb⟩
  | false =>
   obtain ⟨k, hk, h1, h2⟩ := first_of p r (fun hh => hn (fun b hb => by
    rcases List.mem_cons.1 hb with rfl | hb
    ·exact ha
    ·exact hh b hb))
   refine ⟨k + 1, by simp; omega, by simpa using h1, fun b hb => ?_⟩
   rw [List.take_succ_cons] at hb
   rcases List.mem_cons.1 hb with rfl | hb
   ·exact ha
   ·exact h2 b hb
theorem pos_spec (r : List Lease_T) (u : Lease_T) : (posQ r u = -1 ∧ ∀ w ∈ r, ¬ LT u w) ∨ (0 ≤ posQ r u ∧ (posQ r u).toNat < r.length ∧ (∀ w ∈ r.take (posQ r u).toNat, ¬ LT u w) ∧ ∀ h : (posQ r u).toNat < r.length, LT u r[(posQ r u).toNat]) := by
 show (firstN (behF u) r 0 = -1 ∧ _) ∨ (0 ≤ firstN (behF u) r 0 ∧ (firstN (behF u) r 0).toNat < r.length ∧ (∀ w ∈ r.take (firstN (behF u) r 0).toNat, ¬ LT u w) ∧ ∀ h : (firstN (behF u) r 0).toNat < r.length, LT u r[(firstN (behF u) r 0).toNat])
 by_cases hn : ∀ a ∈ r, behF u a = false
 ·exact .inl ⟨firstN_none hn, fun w hw h => by rw [← beh_lt, hn w hw] at h; cases h⟩
 ·right
  obtain ⟨k, hk, h1, h2⟩ := first_of (behF u) r hn
  have e := firstN_at (i := 0) hk h1 h2
  have ek : (firstN (behF u) r 0).toNat = k := by rw [e]; omega
  rw [ek]
  refine ⟨by rw [e]; omega, hk, fun w hw h => (by rw [← beh_lt, h2 w hw] at h; cases h), fun _ => beh_lt.1 h1⟩
theorem mem_dropQ {l : List Lease_T} {c f : Int} {w : Lease_T} : w ∈ dropQ l c f ↔ w ∈ l ∧ ¬ (w.1 = c ∧ w.2.1 = f) := by
 show w ∈ l.filter _ ↔ _
 rw [List.mem_filter]
 refine and_congr_right fun _ => ?_
 by_cases h1 : w.1 = c <;> by_cases h2 : w.2.1 = f <;> simp [h1, h2]
theorem gref_inv {l : List Lease_T} (h : LInv l) {t : Lease_T} (ht : okE t = true) : LInv (grefQ l t) ∧ ∀ w, w ∈ grefQ l t ↔ (w = upQ l t ∨ (w ∈ l ∧ ¬ (w.1 = t.1 ∧ w.2.1 = t.2.1))) := by
 have e0 : grefQ l t = if 0 ≤ posQ (dropQ l (upQ l t).1 (upQ l t).2.1) (upQ l t) then insQ (dropQ l (upQ l t).1 (upQ l t).2.1) (upQ l t) else dropQ l (upQ l t).1 (upQ l t).2.1 ++ [upQ l t] := rfl
 have hk : (upQ l t).1 = t.1 ∧ (upQ l t).2.1 = t.2.1 := upN_key l t
 have hu : okE (upQ l t) = true := upN_ok h.ok ht
 rw [e0]
 have hr : LInv (dropQ l (upQ l t).1 (upQ l t).2.1) := h.filter _
 have hm : ∀ w, w ∈ dropQ l (upQ l t).1 (upQ l t).2.1 ↔ w ∈ l ∧ ¬ (w.1 = t.1 ∧ w.2.1 = t.2.1) := fun w => by rw [mem_dropQ, hk.1, hk.2]
 generalize dropQ l (upQ l t).1 (upQ l t).2.1 = r at hr hm
 generalize upQ l t = u at hk hu
 have hne : ∀ w ∈ r, ¬ (w.1 = u.1 ∧ w.2.1 = u.2.1) := fun w hw => by rw [hk.1, hk.2]; exact ((hm w).1 hw).2
 rcases pos_spec r u with ⟨p1, p2⟩ | ⟨p1, p2, p3, p4⟩
 ·rw [p1, if_neg (by decide)]
  refine ⟨⟨?_, fun w hw => ?_⟩, fun w => ?_⟩
  ·show (r ++ [u]).Pairwise LT
   rw [List.pairwise_append]
   refine ⟨hr.srt, List.pairwise_singleton _ _, fun a ha b hb => ?_⟩
   rw [List.mem_singleton] at hb
   subst hb
   have := p2 a ha
   have := hne a ha
   unfold LT at *
   omega
  ·rcases List.mem_append.1 hw with hw | hw
   ·exact hr.ok w hw
   ·rw [List.mem_singleton] at hw; rw [hw]; exact hu
  ·rw [List.mem_append, List.mem_singleton, hm w]
   exact ⟨fun h => h.symm, fun h => h.symm⟩
 ·rw [if_pos p1]
  have hi : insQ r u = r.take (posQ r u).toNat ++ u :: r.drop (posQ r u).toNat := rfl
  rw [hi]
  have p4 := p4 p2
  generalize (posQ r u).toNat = q at p2 p3 p4
  have hsp : r.take q ++ r.drop q = r := List.take_append_drop q r
  have hs : (r.take q ++ r.drop q).Pairwise LT := by rw [hsp]; exact hr.srt
  obtain ⟨s1, s2, s3⟩ := List.pairwise_append.1 hs
  have hd : ∀ w ∈ r.drop q, LT u w := by
   intro w hw
   have e : r.drop q = r[q] :: r.drop (q + 1) := List.drop_eq_getElem_cons p2
   rw [e] at hw s2
   rcases List.mem_cons.1 hw with rfl | hw
   ·exact p4
   ·have := (List.pairwise_cons.1 s2).1 w hw
    unfold LT at *
    omega
  have ht' : ∀ w ∈ r.take q, LT w u := by
   intro w hw
   have := p3 w hw
   have := hne w (List.mem_of_mem_take hw)
   unfold LT at *
   omega
  refine ⟨⟨?_, fun w hw => ?_⟩, fun w => ?_⟩
  ·show (r.take q ++ u :: r.drop q).Pairwise LT
   rw [List.pairwise_append]
   refine ⟨s1, List.pairwise_cons.2 ⟨hd, s2⟩, fun a ha b hb => ?_⟩
   rcases List.mem_cons.1 hb with rfl | hb
   ·exact ht' a ha
   ·exact s3 a ha b hb
  ·rcases List.mem_append.1 hw with hw | hw
   ·exact hr.ok w (List.mem_of_mem_take hw)
   ·rcases List.mem_cons.1 hw with rfl | hw
    ·exact hu
    ·exact hr.ok w (List.mem_of_mem_drop hw)
  ·rw [← hm w, List.mem_append, List.mem_cons]
   conv => rhs; rw [← hsp, List.mem_append]
   constructor
   ·rintro (h | h | h)
    ·exact .inr (.inl h)
    ·exact .inl h
    ·exact .inr (.inr h)
   ·rintro (h | h | h)
    ·exact .inr (.inl h)
    ·exact .inl h
    ·exact .inr (.inr h)
theorem firstN_le {α : Type} (p : α → Bool) (l : List α) : (firstN p l 0).toNat ≤ l.length := by
 rcases firstN_lt p l with h | h <;> omega
theorem gref_len (l : List Lease_T) (t : Lease_T) : (grefQ l t).length ≤ l.length + 1 ∧ grefQ l t ≠ [] := by
 have e0 : grefQ l t = if 0 ≤ posQ (dropQ l (upQ l t).1 (upQ l t).2.1) (upQ l t) then insQ (dropQ l (upQ l t).1 (upQ l t).2.1) (upQ l t) else dropQ l (upQ l t).1 (upQ l t).2.1 ++ [upQ l t] := rfl
 have hle : (dropQ l (upQ l t).1 (upQ l t).2.1).length ≤ l.length := List.length_filter_le _ _
 rw [e0]
 generalize dropQ l (upQ l t).1 (upQ l t).2.1 = r at hle
 generalize upQ l t = u
 split
 ·have hi : insQ r u = r.take (posQ r u).toNat ++ u :: r.drop (posQ r u).toNat := rfl
  have := firstN_le (behF u) r
  rw [hi]
  refine ⟨?_, by simp⟩
  simp only [List.length_append, List.length_take, List.length_cons, List.length_drop]
  omega
 ·exact ⟨by simp; omega, by simp⟩

end Go.Proofs.Ytkanmigbbpppnaa
