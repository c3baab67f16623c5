/- A part of the proof: contracts of functions. -/
import Derived.Test.YtkanmigbbpppnaaH4
import Derived.Test.YtkanmigbbpppnaaAbAny

set_option linter.unusedVariables false
set_option linter.unusedSimpArgs false
set_option maxRecDepth 100000
namespace Go.Proofs.Ytkanmigbbpppnaa
open Go Go.Ab
theorem wf8 {l : List Int} (h : ∀ d ∈ l, Tu.wf [.fi .u8] d) : ∀ v ∈ l, 0 ≤ v ∧ v < 256 := fun v hv => by
 have : (0 : Int) ≤ v ∧ v ≤ 255 := h v hv
 omega
theorem tm_lt (c : Int) (n : Int) (h : 0 ≤ c ∧ c ≤ 255) (hn : 1 ≤ n ∧ n ≤ 255) : IntKind.i64.wrap (1 + IntKind.i64.wrap (c.tmod n)) = 1 + c.tmod n ∧ 0 ≤ c.tmod n ∧ c.tmod n < n := by
 have h1 := Int.tmod_nonneg n h.1
 have h2 := Int.tmod_lt_of_pos c (show 0 < n by omega)
 rw [w64 (n := c.tmod n) (by omega) (by omega), w64 (by omega) (by omega)]
 exact ⟨rfl, h1, h2⟩
abbrev Row3b : Type := Int × Int × Int
abbrev Row3b_fs : List Lf := [.fi .u8, .fi .u8, .fi .u8]
noncomputable def Lt1 : PKs := Nd4.add 14 drunS.pk
noncomputable def Lt2 : PKs := Lt1.add 17 daskS.pk
noncomputable def Lt3 : PKs := Lt2.add 21 aheadRSw.pk
noncomputable def Lt4 : PKs := Lt3.add 22 hrefS.pk
theorem Lt1_ok : PKsOk Try.prog Lt1 := PKsOk.anyF Nd4_ok 14 drunS drunO
theorem Lt2_ok : PKsOk Try.prog Lt2 := PKsOk.anyF Lt1_ok 17 daskS daskO
theorem Lt3_ok : PKsOk Try.prog Lt3 := PKsOk.anyF Lt2_ok 21 aheadRSw aheadROw
theorem Lt4_ok : PKsOk Try.prog Lt4 := PKsOk.anyF Lt3_ok 22 hrefS hrefO
theorem ah_drop {c f o : Int} (ho : o ≠ c) : ∀ {W : List Wait_T}, aheadNw c f W = false → aheadNw c f (dropFw W o) = false
 | [], h => rfl
 | x :: r, h => by
  unfold aheadNw at h
  by_cases hx : x.2.2.1 = f
  ·rw [if_pos hx] at h
   have hc : x.1 = c := by simpa using h
   have e : dropFw (x :: r) o = x :: dropFw r o := by
    unfold dropFw; rw [List.filter_cons_of_pos]; simp; omega
   rw [e]; unfold aheadNw; rw [if_pos hx, h]
  ·rw [if_neg hx] at h
   have hr := ah_drop ho h
   by_cases hxo : x.1 = o
   ·have e : dropFw (x :: r) o = dropFw r o := by
     unfold dropFw; rw [List.filter_cons_of_neg]; simp [hxo]
    rw [e]; exact hr
   ·have e : dropFw (x :: r) o = x :: dropFw r o := by
     unfold dropFw; rw [List.filter_cons_of_pos]; simp [hxo]
    rw [e]; unfold aheadNw; rw [if_neg hx]; exact hr
theorem ah_app {c f : Int} {b : List Wait_T} : ∀ {W : List Wait_T}, aheadNw c f W = false → (∃ w ∈ W, w.2.2.1 = f) → aheadNw c f (W ++ b) = false
 | [], _, ⟨_, h, _⟩ => by cases h
 | x :: r, h, ⟨w, hw, hf⟩ => by
  rw [List.cons_append]
  unfold aheadNw at h ⊢
  by_cases hx : x.2.2.1 = f
  ·rw [if_pos hx] at h ⊢; exact h
  ·rw [if_neg hx] at h ⊢
   rcases List.mem_cons.1 hw with rfl | hw
   ·exact absurd hf hx
   ·exact ah_app h ⟨w, hw, hf⟩
theorem ah_set {c f : Int} {v : Wait_T} : ∀ {W : List Wait_T} {k : Nat} (hk : k < W.length), W[k].1 = v.1 → W[k].2.2.1 = v.2.2.1 → aheadNw c f (W.set k v) = aheadNw c f W
 | [], _, hk, _, _ => absurd hk (Nat.not_lt_zero _)
 | x :: r, 0, _, h1, h2 => by
  have h1 : x.1 = v.1 := h1
  have h2 : x.2.2.1 = v.2.2.1 := h2
  show aheadNw c f (v :: r) = aheadNw c f (x :: r)
  unfold aheadNw
  rw [h1, h2]
 | x :: r, k + 1, hk, h1, h2 => by
  show aheadNw c f (x :: r.set k v) = aheadNw c f (x :: r)
  unfold aheadNw
  rw [ah_set (W := r) (k := k) (by simpa using hk) h1 h2]
theorem ah_other {c f o : Int} (ho : o ≠ c) : ∀ {W : List Wait_T}, aheadNw c f W = false → (∃ w ∈ W, w.2.2.1 = f) → aheadNw o f W = true
 | [], _, ⟨_, h, _⟩ => by cases h
 | x :: r, h, ⟨w, hw, hf⟩ => by
  unfold aheadNw at h ⊢
  by_cases hx : x.2.2.1 = f
  ·rw [if_pos hx] at h ⊢
   have hc : x.1 = c := by simpa using h
   simp; omega
  ·rw [if_neg hx] at h ⊢
   rcases List.mem_cons.1 hw with rfl | hw
   ·exact absurd hf hx
   ·exact ah_other ho h ⟨w, hw, hf⟩
theorem o_uniq {W : List Wait_T} (h : OInv W) {v w : Wait_T} (hv : v ∈ W) (hw : w ∈ W) (e : v.1 = w.1) : v = w := by
 obtain ⟨i, hi, rfl⟩ := List.getElem_of_mem hv
 obtain ⟨j, hj, rfl⟩ := List.getElem_of_mem hw
 have h1 : (W.map (·.1))[i]'(by simpa using hi) = (W.map (·.1))[j]'(by simpa using hj) := by simpa using e
 have : i = j := by
  rcases Nat.lt_trichotomy i j with hjk | hjk | hjk
  ·exact absurd h1 (List.pairwise_iff_getElem.1 h.2 i j (by simpa using hi) (by simpa using hj) hjk)
  ·exact hjk
  ·exact absurd h1.symm (List.pairwise_iff_getElem.1 h.2 j i (by simpa using hj) (by simpa using hi) hjk)
 subst this; rfl
theorem put_keeps {W : List Wait_T} (h : OInv W) {v w : Wait_T} (hw : w ∈ W) (hne : v.1 ≠ w.1) (ha : aheadNw w.1 w.2.2.1 W = false) : w ∈ (putQw W v).1 ∧ aheadNw w.1 w.2.2.1 (putQw W v).1 = false := by
 have e : putQw W v = if 0 ≤ placeFw W v.1 ∧ (W.getD (placeFw W v.1).toNat (0, 0, 0, 0)).2.2.1 = v.2.2.1 then (W.set (placeFw W v.1).toNat v, true) else if 4 ≤ (dropFw W v.1).length then (W, false) else (dropFw W v.1 ++ [v], true) := rfl
 have hd : w ∈ dropFw W v.1 := List.mem_filter.2 ⟨hw, by simp; omega⟩
 rw [e]
 split
 ·next hc =>
  have hp := firstN_ge (fun u : Wait_T => decide (u.1 = v.1)) W 0 (by omega)
  have hpl : placeFw W v.1 = firstN (fun u : Wait_T => decide (u.1 = v.1)) W 0 := rfl
  rcases hp with ⟨e1, e2⟩ | ⟨k, hk, e1, e2, e3⟩
  ·rw [hpl, e1] at hc; omega
  ·have hk1 : W[k].1 = v.1 := by simpa using e2
   have hpk : (placeFw W v.1).toNat = k := by rw [hpl, e1]; omega
   have hc2 := hc.2
   rw [hpk, getD_at hk] at hc2
   rw [hpk]
   refine ⟨?_, by rw [ah_set hk hk1 hc2]; exact ha⟩
   obtain ⟨j, hj, rfl⟩ := List.getElem_of_mem hw
   have hjk : k ≠ j := fun e => hne (by subst e; exact hk1.symm)
   have : (W.set k v)[j]'(by simpa using hj) = W[j] := List.getElem_set_ne hjk _
   rw [← this]
   exact List.getElem_mem _
 ·split
  ·exact ⟨hw, ha⟩
  ·exact ⟨List.mem_append_left _ hd, ah_app (ah_drop (fun e => hne e) ha) ⟨w, hd, rfl⟩⟩
structure WInv (till now : Int) (w : Wait_T) (L : List Lease_T) (W : List Wait_T) : Prop where
 e : EInv 3 now L W
 mem : w ∈ W
 first : aheadNw w.1 w.2.2.1 W = false
 till : ∀ x ∈ L, x.2.1 = w.2.2.1 → x.2.2.2 ≤ till
theorem WInv.lend {till now : Int} (hn : 0 ≤ now) {w v : Wait_T} {L : List Lease_T} {W : List Wait_T} (h : WInv till now w L W) (hv : wOk v) (hf : v.2.2.1 ≤ 3) (hne : v.1 ≠ w.1) (hm : mayQd L W now v = true) : WInv till now w (letsL L now v) (dropFw W v.1) := by
 have hnf : v.2.2.1 ≠ w.2.2.1 := fun e => by
  have h1 := (may_cs hm).2
  rw [e, ah_other hne h.first ⟨w, h.mem, rfl⟩] at h1
  cases h1
 refine ⟨h.e.lend hn hv hf hm, List.mem_filter.2 ⟨h.mem, by simp; omega⟩, ah_drop hne h.first, fun x hx hxf => ?_⟩
 rcases lets_mem h.e.d.a.inv h.e.u v x hx with hx | hx
 ·omega
 ·exact h.till x hx.1 hxf
theorem WInv.prune {till now now' : Int} {w : Wait_T} {L : List Lease_T} {W : List Wait_T} (h : WInv till now w L W) (hn : now ≤ now') : WInv till now' w (pruneQ L now') W :=
 ⟨h.e.prune hn, h.mem, h.first, fun x hx => h.till x (List.mem_filter.1 hx).1⟩
theorem ask_W {till now now' : Int} (hn : 0 ≤ now') (hle : now ≤ now') {w v : Wait_T} {L : List Lease_T} {W : List Wait_T} (h : WInv till now w L W) (hv : wOk v) (hf : v.2.2.1 ≤ 3) (hne : v.1 ≠ w.1) : WInv till now' w (askQ L W now' v).1.2 (askQ L W now' v).2.1.2 := by
 have e : askQ L W now' v = if mayQd (pruneQ L now') W now' v = true then ((false, letsL (pruneQ L now') now' v), (W.isEmpty, letsW W v), true, (true, []), 0)
  else if (putQw W v).2 = false then ((L.isEmpty, pruneQ L now'), (W.isEmpty, W), false, (true, []), 3)
  else ((L.isEmpty, pruneQ L now'), (false, (putQw W v).1), false, ((csF (pruneQ L now') now' v.1 v.2.2.1 v.2.2.2).isEmpty, csF (pruneQ L now') now' v.1 v.2.2.1 v.2.2.2), 0) := rfl
 have hP := h.prune hle
 rw [e]
 split
 ·next hc => exact hP.lend hn hv hf hne hc
 ·split
  ·exact hP
  ·obtain ⟨p1, p2⟩ := put_keeps hP.e.o hP.mem hne hP.first
   exact ⟨hP.e.put hv hf, p1, p2, hP.till⟩

end Go.Proofs.Ytkanmigbbpppnaa
