/- A part of the proof: contracts of functions. -/
import Derived.Test.YtacpbgkljdgmlaaN
import Derived.Test.YtacpbgkljdgmlaaAbAny

set_option linter.unusedVariables false
set_option linter.unusedSimpArgs false
set_option maxRecDepth 100000
namespace Go.Proofs.Ytacpbgkljdgmlaa
open Go Go.Ab
theorem nearN_true (g : Gram_T) (w : Int) : ∀ s : List Gram_T, nearN g w s true = true
  | [] => rfl
  | a :: r => nearN_true g w r
theorem nearN_ex (g : Gram_T) (w : Int) : ∀ (s : List Gram_T) (b : Bool), (b = true ∨ ∃ a ∈ s, aptQ g.2.1 a.2.1 = w ∧ g.1 = 2) → nearN g w s b = true
  | [], b, h => by
    rcases h with h | ⟨a, ha, _⟩
    · exact h
    · cases ha
  | a :: r, b, h => by
    unfold nearN
    refine nearN_ex g w r _ ?_
    rcases h with h | ⟨c, hc, h1, h2⟩
    · left; rw [h]; rfl
    · rcases List.mem_cons.1 hc with hc | hc
      · left; rw [← hc, decide_eq_true h1, decide_eq_true h2]; simp
      · right; exact ⟨c, hc, h1, h2⟩
theorem difN_self : ∀ a : List UInt8, difN a a = 0
  | [] => rfl
  | a :: r => by
    unfold difN
    rw [if_pos rfl, difN_self r]
theorem difN_zero : ∀ {a b : List UInt8}, a.length = b.length → difN a b = 0 → a = b
  | [], [], _, _ => rfl
  | a :: r, b :: s, hl, h => by
    unfold difN at h
    by_cases c : a = b
    · rw [if_pos c] at h
      have := difN_zero (a := r) (b := s) (by simpa using hl) (by omega)
      rw [c, this]
    · rw [if_neg c] at h; omega
theorem difN_set : ∀ {a : List UInt8} {k : Nat} (hk : k < a.length) {v : UInt8}, v ≠ a[k] → difN (a.set k v) a = 1
  | a :: r, 0, _, v, hv => by
    have hv' : v ≠ a := hv
    show difN (v :: r) (a :: r) = 1
    unfold difN
    rw [if_neg hv', difN_self]
  | a :: r, k + 1, hk, v, hv => by
    show difN (a :: r.set k v) (a :: r) = 1
    unfold difN
    rw [if_pos rfl]
    have := difN_set (a := r) (k := k) (by simpa using hk) (v := v) hv
    omega
theorem turnV_ne (b : UInt8) {t : Int} (h0 : 0 ≤ t) (ht : t.tmod 256 ≠ 0) : turnV (b.toNat : Int) t ≠ b := by
  intro h
  unfold turnV at h
  have h1 : (BitVec.ofInt 8 (b.toNat : Int) ^^^ BitVec.ofInt 8 (IntKind.u8.wrap (t.tmod 256))).toNat % 256 = b.toNat := congrArg UInt8.toNat h
  have hb := b.toNat_lt
  have hx : BitVec.ofInt 8 (b.toNat : Int) ^^^ BitVec.ofInt 8 (IntKind.u8.wrap (t.tmod 256)) = BitVec.ofInt 8 (b.toNat : Int) := by
    apply BitVec.eq_of_toNat_eq
    have hlt := (BitVec.ofInt 8 (b.toNat : Int) ^^^ BitVec.ofInt 8 (IntKind.u8.wrap (t.tmod 256))).isLt
    rw [Nat.mod_eq_of_lt (by omega)] at h1
    rw [h1, BitVec.toNat_ofInt]
    omega
  have hy : BitVec.ofInt 8 (IntKind.u8.wrap (t.tmod 256)) = 0#8 := by
    have := congrArg (fun z => BitVec.ofInt 8 (b.toNat : Int) ^^^ z) hx
    simp only [← BitVec.xor_assoc, BitVec.xor_self, BitVec.zero_xor] at this
    exact this
  have hz := congrArg BitVec.toNat hy
  rw [BitVec.toNat_ofInt] at hz
  have g0 := Int.tmod_nonneg 256 h0
  have g1 := Int.tmod_lt_of_pos t (show (0 : Int) < 256 by decide)
  have w8 : IntKind.u8.wrap (t.tmod 256) = t.tmod 256 := by
    simp only [IntKind.wrap, IntKind.bits, IntKind.signed]
    simp
    omega
  rw [w8] at hz
  simp at hz
  omega
theorem apt_self (a : List UInt8) : aptQ a a = 0 := by
  show (if a.length = a.length then difQ a a else 9) = 0
  rw [if_pos rfl]
  show (difN a a : Int) = 0
  rw [difN_self]; rfl
theorem apt_zero {a b : List UInt8} (h : aptQ a b = 0) : a = b := by
  have h' : (if a.length = b.length then difQ a b else 9) = 0 := h
  by_cases c : a.length = b.length
  · rw [if_pos c] at h'
    have h2 : (difN a b : Int) = 0 := h'
    exact difN_zero c (by omega)
  · rw [if_neg c] at h'; omega
theorem apt_set {a : List UInt8} {k : Nat} (hk : k < a.length) {v : UInt8} (hv : v ≠ a[k]) : aptQ (a.set k v) a = 1 := by
  show (if (a.set k v).length = a.length then difQ (a.set k v) a else 9) = 1
  rw [if_pos (by rw [List.length_set])]
  show (difN (a.set k v) a : Int) = 1
  rw [difN_set hk hv]; rfl
def nr (g : Gram_T) (s : List Gram_T) : Prop := ∃ a ∈ s, aptQ g.2.1 a.2.1 = wantG g ∧ g.1 = 2
def NI (f s : List Gram_T) (i : Nat) : Prop := (f.length ≤ 40 ∧ s.length ≤ i ∧ ∀ g ∈ f, g.2.1.length ≤ 1000) ∧ ∀ g ∈ f, nr g s
theorem NI.okN {f s : List Gram_T} {i : Nat} (h : NI f s i) (hi : i ≤ 1000) : okN f s := ⟨⟨h.1.1, by have := h.1.2.1; omega, h.1.2.2⟩, fun g hg => nearN_ex g _ s false (.inr (h.2 g hg))⟩
theorem NI.nil {f s : List Gram_T} {i : Nat} (h : NI f s i) (hs : s = []) : f = [] := by
  cases f with
  | nil => rfl
  | cons g r => obtain ⟨a, ha, _⟩ := h.2 g (by simp); rw [hs] at ha; cases ha
theorem NI.sub {f f' s : List Gram_T} {i : Nat} (h : NI f s i) (hl : f'.length ≤ 40) (hs : ∀ g ∈ f', g ∈ f) : NI f' s (i + 1) := ⟨⟨hl, by have := h.1.2.1; omega, fun g hg => h.1.2.2 g (hs g hg)⟩, fun g hg => h.2 g (hs g hg)⟩
theorem NI.send {f s : List Gram_T} {i : Nat} (h : NI f s i) (B : List UInt8) (hB : B.length ≤ 1000) : NI (sendF f (2, B, false)) (s ++ [(2, B, false)]) (i + 1) := by
  have old : ∀ g ∈ f, nr g (s ++ [(2, B, false)]) := fun g hg => by
    obtain ⟨a, ha, h1⟩ := h.2 g hg
    exact ⟨a, by simp [ha], h1⟩
  have new : nr (2, B, false) (s ++ [(2, B, false)]) := ⟨(2, B, false), by simp, apt_self B, rfl⟩
  refine ⟨⟨?_, by have := h.1.2.1; simp; omega, ?_⟩, ?_⟩
  · have := h.1.1
    unfold sendF; split
    · simp; omega
    · omega
  · intro g hg
    unfold sendF at hg
    split at hg
    · rcases List.mem_append.1 hg with hg | hg
      · exact h.1.2.2 g hg
      · rw [List.mem_singleton.1 hg]; exact hB
    · exact h.1.2.2 g hg
  · intro g hg
    unfold sendF at hg
    split at hg
    · rcases List.mem_append.1 hg with hg | hg
      · exact old g hg
      · rw [List.mem_singleton.1 hg]; exact new
    · exact old g hg
theorem NI.comes {f s : List Gram_T} {i : Nat} (h : NI f s i) (n : Int) : NI (comesF f n).1 s (i + 1) := by
  have := h.1.1
  unfold comesF
  split
  · refine h.sub ?_ (fun g hg => List.mem_of_mem_eraseIdx hg)
    have := List.length_eraseIdx_le f n.toNat
    show (f.eraseIdx n.toNat).length ≤ 40
    omega
  · exact h.sub this (fun g hg => hg)
theorem NI.twice {f s : List Gram_T} {i : Nat} (h : NI f s i) (n : Int) : NI (twiceF f n).1 s (i + 1) := by
  have h1 := h.1.1
  unfold twiceF
  split
  · rename_i c
    have hm : f.getD n.toNat zG ∈ f := by rw [getD_at (by omega)]; exact List.getElem_mem _
    refine h.sub ?_ ?_
    · show (sendF f _).length ≤ 40
      unfold sendF; split
      · simp; omega
      · omega
    · intro g hg
      have hg' : g ∈ sendF f (f.getD n.toNat zG) := hg
      unfold sendF at hg'
      split at hg'
      · rcases List.mem_append.1 hg' with hg' | hg'
        · exact hg'
        · rw [List.mem_singleton.1 hg']; exact hm
      · exact hg'
  · exact h.sub h1 (fun g hg => hg)
theorem NI.turned {f s : List Gram_T} {i : Nat} (h : NI f s i) (n t : Int) (ht : t < 9223372036854775808) : NI (turnedQ f n t).1 s (i + 1) := by
  have h1 := h.1.1
  show NI (turnedF f n t).1 s (i + 1)
  unfold turnedF
  split
  · rename_i c
    have hk : n.toNat < f.length := by omega
    have hg0 := h.2 f[n.toNat] (List.getElem_mem hk)
    have hl0 := h.1.2.2 f[n.toNat] (List.getElem_mem hk)
    have c2 := c.2
    rw [getD_at hk] at c2 ⊢
    generalize f[n.toNat] = g at hg0 hl0 c2 ⊢
    unfold noTurn at c2
    simp only [Bool.or_eq_false_iff, decide_eq_false_iff_not] at c2
    obtain ⟨⟨⟨d1, d2⟩, d3⟩, d4⟩ := c2
    have hK := (turnK_lt d2 (by omega) ht hl0).2.2
    obtain ⟨a, ha, h2, h3⟩ := hg0
    have hw : wantG g = 0 := if_neg (by rw [d1]; simp)
    rw [hw] at h2
    have e := apt_zero h2
    have hv : turnV ((g.2.1.getD (turnK g.2.1 t) 0).toNat : Int) t ≠ g.2.1[turnK g.2.1 t] := by
      rw [getD_at hK]; exact turnV_ne _ (by omega) d4
    have hn : nr (g.1, turnB g.2.1 t, true) s := ⟨a, ha, by
      rw [← e]
      exact apt_set hK hv, h3⟩
    refine ⟨⟨by show (f.set n.toNat _).length ≤ 40; rw [List.length_set]; exact h1, by have := h.1.2.1; omega, ?_⟩, ?_⟩
    · intro b hb
      rcases List.mem_or_eq_of_mem_set hb with hb | hb
      · exact h.1.2.2 b hb
      · rw [hb]
        show (turnB g.2.1 t).length ≤ 1000
        unfold turnB; rw [List.length_set]; exact hl0
    · intro b hb
      rcases List.mem_or_eq_of_mem_set hb with hb | hb
      · exact h.2 b hb
      · rw [hb]; exact hn
  · exact h.sub h1 (fun g hg => hg)

end Go.Proofs.Ytacpbgkljdgmlaa
