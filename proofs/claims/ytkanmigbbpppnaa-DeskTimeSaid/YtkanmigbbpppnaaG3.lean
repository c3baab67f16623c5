/- A part of the proof: contracts of functions. -/
import Derived.Test.YtkanmigbbpppnaaF3
import Derived.Test.YtkanmigbbpppnaaAbAny

set_option linter.unusedVariables false
set_option linter.unusedSimpArgs false
set_option maxRecDepth 100000
namespace Go.Proofs.Ytkanmigbbpppnaa
open Go Go.Ab
structure AInv (now : Int) (x : List Lease_T) : Prop where
 inv : LInv x
 live : ∀ w ∈ x, now < w.2.2.2
 alone : ∀ w ∈ x, ∀ v ∈ x, w.2.1 = v.2.1 → w.2.2.1 = 2 → w.1 = v.1
theorem AInv.sub {now now' : Int} {x y : List Lease_T} (h : AInv now x) (hi : LInv y) (hs : ∀ w ∈ y, w ∈ x ∧ now' < w.2.2.2) : AInv now' y :=
 ⟨hi, fun w hw => (hs w hw).2, fun w hw v hv => h.alone w (hs w hw).1 v (hs v hv).1⟩
theorem csF_nil {x : List Lease_T} {now c f m : Int} (h : csF x now c f m = []) : ∀ w ∈ x, w.2.1 = f → w.1 ≠ c → holdQ x now w.1 f ≠ 0 → m ≠ 2 ∧ holdQ x now w.1 f ≠ 2 := by
 intro w hw hf hc hh
 have e : (x.filter (csK x now c f m)).map csg = [] := h
 rw [List.map_eq_nil_iff, List.filter_eq_nil_iff] at e
 have := e w hw
 unfold csK at this
 simp only [Bool.and_eq_true, Bool.not_eq_true', decide_eq_true_eq, decide_eq_false_iff_not, Bool.or_eq_true, not_and, not_or] at this
 exact this ⟨hf, hc⟩ hh
theorem AInv.grant {now : Int} {x : List Lease_T} (h : AInv now x) {c f m u : Int} (ht : okE (c, f, m, u) = true) (hu : now < u) (hc : csF x now c f m = []) : AInv now (granQ x (c, f, m, u)) ∧ m ≤ holdQ (granQ x (c, f, m, u)) now c f := by
 obtain ⟨a, b⟩ := gran_mem h.inv.srt (c, f, m, u)
 have hno : ∀ v ∈ x, v.2.1 = f → v.1 ≠ c → m ≠ 2 ∧ v.2.2.1 ≠ 2 := fun v hv h1 h2 => by
  have e := (hold_mem h.inv.srt hv (c := v.1) (f := f) ⟨rfl, h1⟩ now).2.2
  have hl := h.live v hv
  have ho := okE_iff.1 (h.inv.ok v hv)
  have ev : valF now v = v.2.2.1 := if_neg (by omega)
  have := csF_nil hc v hv h1 h2 (by rw [e, ev]; omega)
  rw [e, ev] at this
  exact this
 have hk : (upQ x (c, f, m, u)).1 = c ∧ (upQ x (c, f, m, u)).2.1 = f := upN_key x _
 have hup : (upQ x (c, f, m, u)).2.2.2 ≥ u ∧ (upQ x (c, f, m, u)).2.2.1 ≥ m ∧ ((upQ x (c, f, m, u)).2.2.1 = 2 → ∀ v ∈ x, v.2.1 = f → v.1 = c) := by
  by_cases hw : ∃ w ∈ x, sameK w (c, f, m, u)
  ·obtain ⟨w, hw, hs⟩ := hw
   have e : upQ x (c, f, m, u) = (c, f, maxI m w.2.2.1, maxI u w.2.2.2) := upN_mem h.inv.srt hw hs
   rw [e]
   have m1 := maxI_le m w.2.2.1
   have m2 := maxI_le u w.2.2.2
   refine ⟨m2.1, m1.1, fun h2 v hv hf => Classical.byContradiction fun hne => ?_⟩
   have q := hno v hv hf hne
   have : w.2.2.1 = 2 := by
    have h2' : maxI m w.2.2.1 = 2 := h2
    unfold maxI at h2'
    split at h2'
    ·exact h2'
    ·exact absurd h2' q.1
   have hs1 : w.1 = c := hs.1
   have hs2 : w.2.1 = f := hs.2
   have := h.alone w hw v hv (by omega) this
   omega
  ·have e : upQ x (c, f, m, u) = (c, f, m, u) := upN_none fun w hm hs => hw ⟨w, hm, hs⟩
   rw [e]
   exact ⟨Int.le_refl _, Int.le_refl _, fun h2 v hv hf => Classical.byContradiction fun hne => (hno v hv hf hne).1 h2⟩
 obtain ⟨u1, u2, u3⟩ := hup
 refine ⟨⟨gran_inv h.inv ht, fun w hw => ?_, fun w hw v hv hf h2 => ?_⟩, ?_⟩
 ·rcases (b w).1 hw with rfl | ⟨hw, _⟩
  ·omega
  ·exact h.live w hw
 ·rcases (b w).1 hw with rfl | ⟨hw, nw⟩
  ·rcases (b v).1 hv with rfl | ⟨hv, nv⟩
   ·rfl
   ·rw [hk.1]; exact (u3 h2 v hv (by rw [← hf]; exact hk.2)).symm
  ·rcases (b v).1 hv with rfl | ⟨hv, nv⟩
   ·rw [hk.2] at hf
    rw [hk.1]
    exact Classical.byContradiction fun hne => (hno w hw hf hne).2 h2
   ·exact h.alone w hw v hv hf h2
 ·rw [hold_gran h.inv.srt, if_pos ⟨rfl, rfl⟩]
  unfold valF
  rw [if_neg (by omega)]
  exact u2
abbrev wOk (w : Wait_T) : Prop := (1 ≤ w.1 ∧ w.1 ≤ 3) ∧ (1 ≤ w.2.2.1 ∧ w.2.2.1 ≤ 6) ∧ (1 ≤ w.2.2.2 ∧ w.2.2.2 ≤ 2)
structure DInv (now : Int) (L : List Lease_T) (W : List Wait_T) : Prop where
 a : AInv now L
 w : ∀ v ∈ W, wOk v
 l : W.length ≤ 4
theorem AInv.filt {now now' : Int} {x : List Lease_T} (h : AInv now x) (p : Lease_T → Bool) (hp : ∀ w ∈ x, p w = true → now' < w.2.2.2) : AInv now' (x.filter p) :=
 h.sub (h.inv.filter _) fun w hw => ⟨(List.mem_filter.1 hw).1, hp w (List.mem_filter.1 hw).1 (List.mem_filter.1 hw).2⟩
theorem AInv.prune {now now' : Int} {x : List Lease_T} (h : AInv now x) : AInv now' (pruneQ x now') :=
 h.filt (fun w : Lease_T => !decide (w.2.2.2 ≤ now')) fun w _ hp => by simp at hp; exact hp
theorem AInv.drop {now : Int} {x : List Lease_T} (h : AInv now x) (c f : Int) : AInv now (dropQ x c f) :=
 h.sub (h.inv.filter _) fun w hw => ⟨(List.mem_filter.1 hw).1, h.live w (List.mem_filter.1 hw).1⟩
theorem w_okE {now : Int} (hn : 0 ≤ now) {w : Wait_T} (hw : wOk w) : okE (w.1, w.2.2.1, w.2.2.2, now + 60) = true := okE_iff.2 ⟨hw.1, hw.2.1, hw.2.2, by show 0 ≤ now + 60; omega⟩
theorem lend_inv {now : Int} (hn : 0 ≤ now) {L : List Lease_T} (h : AInv now L) {w : Wait_T} (hw : wOk w) (hc : csF L now w.1 w.2.2.1 w.2.2.2 = []) : AInv now (letsL L now w) ∧ lendL L now w = letsL L now w :=
 ⟨(h.grant (w_okE hn hw) (by omega) hc).1, (gran_eq h.inv (w_okE hn hw)).symm⟩
theorem free_eq {L : List Lease_T} (h : LInv L) (W : List Wait_T) (now : Int) (w : Wait_T) : freeQ L W now w = mayQd L W now w := by
 show (decide (rcF L now w.1 w.2.2.1 w.2.2.2 = []) && _) = (decide (csF L now w.1 w.2.2.1 w.2.2.2 = []) && _)
 rw [clash_eq h]
theorem may_cs {L : List Lease_T} {W : List Wait_T} {now : Int} {w : Wait_T} (h : mayQd L W now w = true) : csF L now w.1 w.2.2.1 w.2.2.2 = [] ∧ aheadNw w.1 w.2.2.1 W = false := by
 have e : (decide (csF L now w.1 w.2.2.1 w.2.2.2 = []) && !aheadNw w.1 w.2.2.1 W) = true := h
 simpa using e
theorem dropw_mem {W : List Wait_T} {c : Int} {v : Wait_T} (h : v ∈ dropFw W c) : v ∈ W := (List.mem_filter.1 h).1
theorem dropw_len (W : List Wait_T) (c : Int) : (dropFw W c).length ≤ W.length := List.length_filter_le _ _
theorem DInv.lend {now : Int} (hn : 0 ≤ now) {L : List Lease_T} {W : List Wait_T} (h : DInv now L W) {w : Wait_T} (hw : wOk w) (hm : mayQd L W now w = true) : DInv now (letsL L now w) (dropFw W w.1) :=
 ⟨(lend_inv hn h.a hw (may_cs hm).1).1, fun v hv => h.w v (dropw_mem hv), Nat.le_trans (dropw_len _ _) h.l⟩
theorem put_spec {W : List Wait_T} {w : Wait_T} (hl : W.length ≤ 4) {r : List Wait_T × Bool} (hr : r = (W.set (firstN (wantPw w) W 0).toNat w, true) ∨ r = (W, false) ∨ ((dropFw W w.1).length < 4 ∧ r = (dropFw W w.1 ++ [w], true)) ∨ r = (W.set (placeFw W w.1).toNat w, true)) : r.1.length ≤ 4 ∧ r.1.length ≤ W.length + 1 ∧ ∀ v ∈ r.1, v ∈ W ∨ v = w := by
 rcases hr with rfl | rfl | ⟨h, rfl⟩ | rfl
 ·exact ⟨by simpa using hl, by simp, fun v hv => List.mem_or_eq_of_mem_set hv⟩
 ·exact ⟨hl, by simp, fun v hv => .inl hv⟩
 ·have := dropw_len W w.1
  refine ⟨by simp; omega, by simp; omega, fun v hv => ?_⟩
  rcases List.mem_append.1 hv with hv | hv
  ·exact .inl (dropw_mem hv)
  ·exact .inr (by simpa using hv)
 ·exact ⟨by simpa using hl, by simp, fun v hv => List.mem_or_eq_of_mem_set hv⟩
theorem putR_spec {W : List Wait_T} {w : Wait_T} (hl : W.length ≤ 4) : (putRQw W w).1.length ≤ 4 ∧ (putRQw W w).1.length ≤ W.length + 1 ∧ ∀ v ∈ (putRQw W w).1, v ∈ W ∨ v = w := by
 refine put_spec hl ?_
 have e : putRQw W w = if 0 ≤ firstN (wantPw w) W 0 then (W.set (firstN (wantPw w) W 0).toNat w, true) else if 4 ≤ (dropFw W w.1).length then (W, false) else (dropFw W w.1 ++ [w], true) := rfl
 rw [e]
 split
 ·exact .inl rfl
 ·split
  ·exact .inr (.inl rfl)
  ·exact .inr (.inr (.inl ⟨by omega, rfl⟩))
theorem putQ_spec {W : List Wait_T} {w : Wait_T} (hl : W.length ≤ 4) : (putQw W w).1.length ≤ 4 ∧ (putQw W w).1.length ≤ W.length + 1 ∧ ∀ v ∈ (putQw W w).1, v ∈ W ∨ v = w := by
 refine put_spec hl ?_
 have e : putQw W w = if 0 ≤ placeFw W w.1 ∧ (W.getD (placeFw W w.1).toNat (0, 0, 0, 0)).2.2.1 = w.2.2.1 then (W.set (placeFw W w.1).toNat w, true) else if 4 ≤ (dropFw W w.1).length then (W, false) else (dropFw W w.1 ++ [w], true) := rfl
 rw [e]
 split
 ·exact .inr (.inr (.inr rfl))
 ·split
  ·exact .inr (.inl rfl)
  ·exact .inr (.inr (.inl ⟨by omega, rfl⟩))
theorem rrN_inv (now : Int) (hn : 0 ≤ now) : ∀ (n i : Nat) (D : Desk_T) (a : List Wait_T), DInv now D.1.2 D.2.2 → DInv now (rrN now n i D a).1.1.2 (rrN now n i D a).1.2.2
 | 0, i, D, a, h => h
 | n + 1, i, D, a, h => by
  unfold rrN
  by_cases hi : i < D.2.2.length
  ·rw [dif_pos hi]
   have hv := h.w _ (List.getElem_mem hi)
   generalize D.2.2[i] = v at hv
   by_cases hc : freeQ D.1.2 D.2.2 now v = true
   ·rw [if_pos hc]
    refine rrN_inv now hn n 0 (nextR D now v) (a ++ [v]) ?_
    rw [free_eq h.a.inv] at hc
    have := h.lend hn hv hc
    rw [← (lend_inv hn h.a hv (may_cs hc).1).2] at this
    exact this
   ·rw [if_neg hc]
    exact rrN_inv now hn n (i + 1) D a h
  ·rw [dif_neg hi]; exact h
theorem DInv.prune {now now' : Int} {L : List Lease_T} {W : List Wait_T} (h : DInv now L W) : DInv now' (pruneQ L now') W := ⟨h.a.prune, h.w, h.l⟩
theorem prune_len (L : List Lease_T) (now : Int) : (pruneQ L now).length ≤ L.length := List.length_filter_le _ _
theorem drop_len (L : List Lease_T) (c f : Int) : (dropQ L c f).length ≤ L.length := List.length_filter_le _ _
theorem ruR_inv {now now' : Int} (hn : 0 ≤ now') {D : Desk_T} (h : DInv now D.1.2 D.2.2) : DInv now' (ruRQ D now').1.2 (ruRQ D now').2.1.2 ∧ (ruRQ D now').1.2.length + (ruRQ D now').2.1.2.length ≤ D.1.2.length + D.2.2.length := by
 have h1 := rrN_inv now' hn ((pruR D now').2.2.length * 51 + (pruR D now').2.2.length) 0 (pruR D now') [] h.prune
 have h2 := (rrN_len now' ((pruR D now').2.2.length * 51 + (pruR D now').2.2.length) 0 (pruR D now') []).2
 have h3 := prune_len D.1.2 now'
 have e : (pruR D now').1.2 = pruneQ D.1.2 now' := rfl
 have e2 : (pruR D now').2.2 = D.2.2 := rfl
 refine ⟨h1, Nat.le_trans h2 ?_⟩
 rw [e, e2]; omega
theorem asR_inv {now : Int} (hn : 0 ≤ now) {D : Desk_T} (h : DInv now D.1.2 D.2.2) {w : Wait_T} (hw : wOk w) : DInv now (asRQ D now w).1.2 (asRQ D now w).2.1.2 ∧ (asRQ D now w).1.2.length + (asRQ D now w).2.1.2.length ≤ D.1.2.length + D.2.2.length + 1 := by
 have e : asRQ D now w = if freeQ (pruneQ D.1.2 now) D.2.2 now w = true then ((false, lendL (pruneQ D.1.2 now) now w), ((dropFw D.2.2 w.1).isEmpty, dropFw D.2.2 w.1), true, (true, []), 0)
  else if (putRQw D.2.2 w).2 = false then (((pruneQ D.1.2 now).isEmpty, pruneQ D.1.2 now), D.2, false, (true, []), 3)
  else (((pruneQ D.1.2 now).isEmpty, pruneQ D.1.2 now), (putRXw D.2.1 D.2.2 w, (putRQw D.2.2 w).1), false, ((rcF (pruneQ D.1.2 now) now w.1 w.2.2.1 w.2.2.2).isEmpty, rcF (pruneQ D.1.2 now) now w.1 w.2.2.1 w.2.2.2), 0) := rfl
 have hP : DInv now (pruneQ D.1.2 now) D.2.2 := h.prune
 have hp := prune_len D.1.2 now
 rw [e]
 split
 ·next hc =>
  rw [free_eq hP.a.inv] at hc
  have h1 := hP.lend hn hw hc
  have h2 := (lend_inv hn hP.a hw (may_cs hc).1).2
  have h3 : (lendL (pruneQ D.1.2 now) now w).length ≤ (pruneQ D.1.2 now).length + 1 := (gref_len _ _).1
  have h4 := dropw_len D.2.2 w.1
  rw [← h2] at h1
  exact ⟨h1, by show (lendL (pruneQ D.1.2 now) now w).length + (dropFw D.2.2 w.1).length ≤ _; omega⟩
 ·split
  ·exact ⟨hP, by show (pruneQ D.1.2 now).length + D.2.2.length ≤ _; omega⟩
  ·obtain ⟨p1, p2, p3⟩ := putR_spec (w := w) h.l
   refine ⟨⟨hP.a, fun v hv => ?_, p1⟩, by show (pruneQ D.1.2 now).length + (putRQw D.2.2 w).1.length ≤ _; omega⟩
   rcases p3 v hv with hv | rfl
   ·exact h.w v hv
   ·exact hw
theorem pos_spec2 {D : Desk_T} {now : Int} (h : ¬ posR D now < 0) : D.2.2.getD (posR D now).toNat (0, 0, 0, 0) ∈ D.2.2 ∧ mayQd D.1.2 D.2.2 now (D.2.2.getD (posR D now).toNat (0, 0, 0, 0)) = true := by
 have hg := firstN_ge (fun w => mayQd D.1.2 D.2.2 now w) D.2.2 0 (Int.le_refl _)
 rcases hg with ⟨h1, _⟩ | ⟨k, hk, h1, h2, _⟩
 ·exact absurd (show posR D now < 0 by have : posR D now = -1 := h1; omega) h
 ·have e : (posR D now).toNat = k := by have : posR D now = 0 + (k : Int) := h1; omega
  rw [e, getD_at hk]
  exact ⟨List.getElem_mem hk, h2⟩
theorem rnN_inv (now : Int) (hn : 0 ≤ now) : ∀ (n : Nat) (D : Desk_T) (a : List Wait_T), DInv now D.1.2 D.2.2 → DInv now (rnN now n D a).1.1.2 (rnN now n D a).1.2.2 ∧ (rnN now n D a).1.1.2.length + (rnN now n D a).1.2.2.length ≤ D.1.2.length + D.2.2.length
 | 0, D, a, h => ⟨h, Nat.le_refl _⟩
 | n + 1, D, a, h => by
  unfold rnN
  by_cases hc : posR D now < 0
  ·rw [if_pos hc]; exact ⟨h, Nat.le_refl _⟩
  ·rw [if_neg hc]
   obtain ⟨l1, l2⟩ := next_len hc
   obtain ⟨p1, p2⟩ := pos_spec2 hc
   have h1 := h.lend hn (h.w _ p1) p2
   generalize D.2.2.getD (posR D now).toNat (0, 0, 0, 0) = v at l1 l2 h1 ⊢
   obtain ⟨i1, i2⟩ := rnN_inv now hn n (nextD D now v) (a ++ [v]) h1
   exact ⟨i1, by omega⟩
theorem run_inv {now now' : Int} (hn : 0 ≤ now') {D : Desk_T} (h : DInv now D.1.2 D.2.2) : DInv now' (runQ D now').1.2 (runQ D now').2.1.2 ∧ (runQ D now').1.2.length + (runQ D now').2.1.2.length ≤ D.1.2.length + D.2.2.length := by
 obtain ⟨h1, h2⟩ := rnN_inv now' hn (pruD D now').2.2.length (pruD D now') [] h.prune
 have h3 := prune_len D.1.2 now'
 have e : (pruD D now').1.2 = pruneQ D.1.2 now' := rfl
 have e2 : (pruD D now').2.2 = D.2.2 := rfl
 refine ⟨h1, Nat.le_trans h2 ?_⟩
 rw [e, e2]; omega
def mdh (b : Picks_T) (D : Desk_T) (now i most : Int) : St := { fr := [(0, .ptr 1000000 0 0 0), (1, .int .i64 most), (4, .ptr 64 0 0 0), (6, .ptr 96 0 0 0), (7, .int .i64 now), (8, .int .i64 i)], bs := [(64, boxB [.slc true [], .slc true []]), (96, boxB (Tu.mk Desk_tfs D)), (1000000, boxB (Tu.mk num_bs b))], df := [] }
noncomputable def md_s (b : Picks_T) (D : Desk_T) (now i most : Int) : Option (St ⊕ (Ex × St)) := stepK Try.prog cfg Md3 LP0 11 0 (mdh b D now i most)
noncomputable def md_s_r (b : Picks_T) (D : Desk_T) (now : Int) (i : Int) (most : Int) : Option (St ⊕ Ex × St) :=
 bK (decide (i < most))
 (oK (overS.dec [pt 1000000] [(bx [.slc b.1.1 (List.map (mkV false [Lf.fi .u8]) b.1.2), i6 b.2])]) fun (d0 : ((Bool × List Int) × Int) × PUnit) =>
 bK (!decide ((↑d0.1.1.2.length : Int) ≤ d0.1.2))
 (oK (numS.dec [pt 1000000, i6 3] [(bx [.slc d0.1.1.1 (List.map (mkV false [Lf.fi .u8]) d0.1.1.2), i6 d0.1.2])]) fun (d1 : ((Bool × List Int) × Int) × Int) =>
 oK (numS.dec [pt 1000000, i6 3] [(bx [.slc (numF d1.1 d1.2).1.1.1 (List.map (mkV false [Lf.fi .u8]) (numF d1.1 d1.2).1.1.2), i6 (numF d1.1 d1.2).1.2])]) fun (d2 : ((Bool × List Int) × Int) × Int) =>
 oK (numS.dec [pt 1000000, i6 6] [(bx [.slc (numF d2.1 d2.2).1.1.1 (List.map (mkV false [Lf.fi .u8]) (numF d2.1 d2.2).1.1.2), i6 (numF d2.1 d2.2).1.2])]) fun (d3 : ((Bool × List Int) × Int) × Int) =>
 bK (decide ((numF d3.1 d3.2).2 = 0)) (oK (girefS.dec [AV.agg [sl D.1.1 D.1.2, sl D.2.1 D.2.2], i6 (IntKind.i64.wrap (1 + (numF d1.1 d1.2).2)), i6 (IntKind.i64.wrap (1 + (numF d2.1 d2.2).2))] []) fun (d4 : LW × LW × Int × Int) => some (.inl (sf [(0, pt 1000000), (1, i6 most), (4, pt 64), (6, pt 96), (7, i6 now), (8, i6 (IntKind.i64.wrap (i + 1)))] [(64, (bx [.slc true [], .slc true []])), (96, (bx [.slc (dropQ d4.1.2 d4.2.2.1 d4.2.2.2).isEmpty (mW (dropQ d4.1.2 d4.2.2.1 d4.2.2.2)), sl d4.2.1.1 d4.2.1.2])), (1000000, (bx [.slc (numF d3.1 d3.2).1.1.1 (List.map (mkV false [Lf.fi .u8]) (numF d3.1 d3.2).1.1.2), i6 (numF d3.1 d3.2).1.2]))])))
 (bK (decide ((numF d3.1 d3.2).2 = 1))
 (oK (numS.dec [pt 1000000, i6 40] [(bx [.slc (numF d3.1 d3.2).1.1.1 (List.map (mkV false [Lf.fi .u8]) (numF d3.1 d3.2).1.1.2), i6 (numF d3.1 d3.2).1.2])]) fun (d5 : ((Bool × List Int) × Int) × Int) =>
 oK (rrunS.dec [AV.agg [sl D.1.1 D.1.2, sl D.2.1 D.2.2], i6 (IntKind.i64.wrap (now + (numF d5.1 d5.2).2))] []) fun (d6 : LW × LW × Int) => some (.inl (sf [(0, pt 1000000), (1, i6 most), (4, pt 64), (6, pt 96), (7, i6 (IntKind.i64.wrap (now + (numF d5.1 d5.2).2))), (8, i6 (IntKind.i64.wrap (i + 1)))] [(64, (bx [.slc true [], .slc true []])), (96, (bx [.slc (ruRQ (d6.1, d6.2.1) d6.2.2).1.1 (mW (ruRQ (d6.1, d6.2.1) d6.2.2).1.2), .slc (ruRQ (d6.1, d6.2.1) d6.2.2).2.1.1 (mW (ruRQ (d6.1, d6.2.1) d6.2.2).2.1.2)])), (1000000, (bx [.slc (numF d5.1 d5.2).1.1.1 (List.map (mkV false [Lf.fi .u8]) (numF d5.1 d5.2).1.1.2), i6 (numF d5.1 d5.2).1.2]))])))
 (oK (numS.dec [pt 1000000, i6 2] [(bx [.slc (numF d3.1 d3.2).1.1.1 (List.map (mkV false [Lf.fi .u8]) (numF d3.1 d3.2).1.1.2), i6 (numF d3.1 d3.2).1.2])]) fun (d7 : ((Bool × List Int) × Int) × Int) =>
 oK (arefS.dec [AV.agg [sl D.1.1 D.1.2, sl D.2.1 D.2.2], i6 now, AV.agg [i6 (IntKind.i64.wrap (1 + (numF d1.1 d1.2).2)), i6 (IntKind.i64.wrap (1 + i)), i6 (IntKind.i64.wrap (1 + (numF d2.1 d2.2).2)), i6 (IntKind.i64.wrap (1 + (numF d7.1 d7.2).2))]] []) fun (d8 : LW × LW × Int × Int × Int × Int × Int) =>
 some (.inl (sf [(0, pt 1000000), (1, i6 most), (4, pt 64), (6, pt 96), (7, i6 now), (8, i6 (IntKind.i64.wrap (i + 1)))] [(64, (bx [.slc true [], .slc true []])), (96, (bx [.slc (asRQ (d8.1, d8.2.1) d8.2.2.1 d8.2.2.2).1.1 (mW (asRQ (d8.1, d8.2.1) d8.2.2.1 d8.2.2.2).1.2), .slc (asRQ (d8.1, d8.2.1) d8.2.2.1 d8.2.2.2).2.1.1 (mW (asRQ (d8.1, d8.2.1) d8.2.2.1 d8.2.2.2).2.1.2)])), (1000000, (bx [.slc (numF d7.1 d7.2).1.1.1 (List.map (mkV false [Lf.fi .u8]) (numF d7.1 d7.2).1.1.2), i6 (numF d7.1 d7.2).1.2]))])))))
 (some (.inr (.exit 0, (sf [(4, pt 64), (6, pt 96), (7, i6 now)] [(64, (bx [.slc true [], .slc true []])), (96, (bx [sl D.1.1 D.1.2, sl D.2.1 D.2.2])), (1000000, (bx [.slc d0.1.1.1 (List.map (mkV false [Lf.fi .u8]) d0.1.1.2), i6 d0.1.2]))])))))
 (some (.inr (.exit 0, (sf [(4, pt 64), (6, pt 96), (7, i6 now)] [(64, (bx [.slc true [], .slc true []])), (96, (bx [sl D.1.1 D.1.2, sl D.2.1 D.2.2])), (1000000, (bx [.slc b.1.1 (List.map (mkV false [Lf.fi .u8]) b.1.2), i6 b.2]))]))))
theorem md_s_w (b : Picks_T) (D : Desk_T) (now : Int) (i : Int) (most : Int) : md_s b D now i most = md_s_r b D now i most := by kernel_rfl

end Go.Proofs.Ytkanmigbbpppnaa
