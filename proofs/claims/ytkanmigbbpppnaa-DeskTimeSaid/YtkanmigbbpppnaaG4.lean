/- A part of the proof: contracts of functions. -/
import Derived.Test.YtkanmigbbpppnaaG3
import Derived.Test.YtkanmigbbpppnaaAbAny

set_option linter.unusedVariables false
set_option linter.unusedSimpArgs false
set_option maxRecDepth 100000
namespace Go.Proofs.Ytkanmigbbpppnaa
open Go Go.Ab
def OInv (a : List Wait_T) : Prop := a.length ≤ 4 ∧ (a.map (·.1)).Nodup
theorem dropO_inv {a : List Wait_T} {c : Int} (h : OInv a) : OInv (dropFw a c) := by
 refine ⟨Nat.le_trans (dropw_len a c) h.1, ?_⟩
 exact List.Nodup.sublist (List.Sublist.map _ List.filter_sublist) h.2
theorem dropO_notin (a : List Wait_T) (c : Int) : c ∉ (dropFw a c).map (·.1) := by
 simp [dropFw]
theorem putO_eq {a : List Wait_T} (w : Wait_T) (h : OInv a) : putFw a w = putRFw a w := by
 have hp := firstN_ge (fun v : Wait_T => decide (v.1 = w.1)) a 0 (by omega)
 have hpl : placeFw a w.1 = firstN (fun v : Wait_T => decide (v.1 = w.1)) a 0 := rfl
 rcases hp with ⟨e1, e2⟩ | ⟨k, hk, e1, e2, e3⟩
 ·have hn : firstN (wantPw w) a 0 = -1 := firstN_none fun v hv => by
   have := e2 v hv
   simp only [decide_eq_false_iff_not] at this
   simp [wantPw, this]
  unfold putFw putRFw
  rw [hpl, e1, hn]
  simp
 ·have hk1 : a[k].1 = w.1 := by simpa using e2
  have hpk : placeFw a w.1 = (k : Int) := by rw [hpl, e1]; omega
  by_cases hf : a[k].2.2.1 = w.2.2.1
  ·have hn : firstN (wantPw w) a 0 = (k : Int) := by
    rw [firstN_at hk (by simp [wantPw, hk1, hf]) (fun v hv => ?_)]
    ·omega
    ·have := e3 v hv
     simp only [decide_eq_false_iff_not] at this
     simp [wantPw, this]
   unfold putFw putRFw
   rw [hpk, hn, Int.toNat_natCast, getD_at hk, if_pos ⟨by omega, hf⟩, if_pos (by omega)]
  ·have hn : firstN (wantPw w) a 0 = -1 := firstN_none fun v hv => by
    obtain ⟨j, hj, rfl⟩ := List.getElem_of_mem hv
    by_cases hc : a[j].1 = w.1
    ·have : j = k := by
      have h1 : (a.map (·.1))[j]'(by simpa using hj) = (a.map (·.1))[k]'(by simpa using hk) := by simp [hc, hk1]
      rcases Nat.lt_trichotomy j k with hjk | hjk | hjk
      ·exact absurd h1 (List.pairwise_iff_getElem.1 h.2 j k (by simpa using hj) (by simpa using hk) hjk)
      ·exact hjk
      ·exact absurd h1.symm (List.pairwise_iff_getElem.1 h.2 k j (by simpa using hk) (by simpa using hj) hjk)
     subst this
     simp [wantPw, hf]
    ·simp [wantPw, hc]
   unfold putFw putRFw
   rw [hpk, hn, Int.toNat_natCast, getD_at hk, if_neg (fun hh => hf hh.2)]
   simp
theorem putO_inv {a : List Wait_T} (w : Wait_T) (h : OInv a) : OInv (putFw a w).1 := by
 unfold putFw
 split
 ·rename_i hc
  have hp := firstN_ge (fun v : Wait_T => decide (v.1 = w.1)) a 0 (by omega)
  have hpl : placeFw a w.1 = firstN (fun v : Wait_T => decide (v.1 = w.1)) a 0 := rfl
  rcases hp with ⟨e1, e2⟩ | ⟨k, hk, e1, e2, e3⟩
  ·rw [hpl, e1] at hc; omega
  ·have hk1 : a[k].1 = w.1 := by simpa using e2
   have hpk : (placeFw a w.1).toNat = k := by rw [hpl, e1]; omega
   rw [hpk]
   refine ⟨by simpa using h.1, ?_⟩
   have : (a.set k w).map (·.1) = a.map (·.1) := by
    rw [List.map_set, ← hk1]
    have e : a[k].1 = (a.map (·.1))[k]'(by simpa using hk) := by simp
    rw [e, List.set_getElem_self]
   show ((a.set k w).map (·.1)).Nodup
   rw [this]
   exact h.2
 ·split
  ·exact h
  ·rename_i h4
   have hd := dropO_inv (c := w.1) h
   refine ⟨by simp; omega, ?_⟩
   show ((dropFw a w.1 ++ [w]).map (·.1)).Nodup
   rw [List.map_append, List.nodup_append]
   refine ⟨hd.2, by simp, ?_⟩
   intro x hx y hy
   simp only [List.map_cons, List.map_nil, List.mem_singleton] at hy
   subst hy
   intro e
   subst e
   exact dropO_notin a _ hx
theorem putO_mem {a : List Wait_T} (w : Wait_T) (h : OInv a) : putRQw a w = putQw a w := (putO_eq w h).symm
structure EInv (m now : Int) (L : List Lease_T) (W : List Wait_T) : Prop where
 d : DInv now L W
 o : OInv W
 u : ∀ x ∈ L, x.2.2.2 ≤ now + 60
 fl : ∀ x ∈ L, x.2.1 ≤ m
 fw : ∀ v ∈ W, v.2.2.1 ≤ m
theorem EInv.prune {m now now' : Int} {L : List Lease_T} {W : List Wait_T} (h : EInv m now L W) (hn : now ≤ now') : EInv m now' (pruneQ L now') W :=
 ⟨h.d.prune, h.o, fun x hx => by have := h.u x (List.mem_filter.1 hx).1; omega, fun x hx => h.fl x (List.mem_filter.1 hx).1, h.fw⟩
theorem EInv.drop {m now : Int} {L : List Lease_T} {W : List Wait_T} (h : EInv m now L W) (c f : Int) : EInv m now (dropQ L c f) W :=
 ⟨⟨h.d.a.drop c f, h.d.w, h.d.l⟩, h.o, fun x hx => h.u x (List.mem_filter.1 hx).1, fun x hx => h.fl x (List.mem_filter.1 hx).1, h.fw⟩
theorem lets_mem {now : Int} {L : List Lease_T} (h : LInv L) (hu : ∀ x ∈ L, x.2.2.2 ≤ now + 60) (w : Wait_T) : ∀ x ∈ letsL L now w, (x.1 = w.1 ∧ x.2.1 = w.2.2.1 ∧ w.2.2.2 ≤ x.2.2.1 ∧ x.2.2.2 = now + 60) ∨ (x ∈ L ∧ ¬ (x.1 = w.1 ∧ x.2.1 = w.2.2.1)) := by
 intro x hx
 have hx : x ∈ granQ L (w.1, w.2.2.1, w.2.2.2, now + 60) := hx
 obtain ⟨a, b⟩ := gran_mem h.srt (w.1, w.2.2.1, w.2.2.2, now + 60)
 rcases (b x).1 hx with rfl | hx
 ·left
  by_cases hw : ∃ v ∈ L, sameK v (w.1, w.2.2.1, w.2.2.2, now + 60)
  ·obtain ⟨v, hv, hs⟩ := hw
   have e : upQ L (w.1, w.2.2.1, w.2.2.2, now + 60) = (w.1, w.2.2.1, maxI w.2.2.2 v.2.2.1, maxI (now + 60) v.2.2.2) := upN_mem h.srt hv hs
   have := hu v hv
   rw [e]
   refine ⟨rfl, rfl, (maxI_le _ _).1, ?_⟩
   show maxI (now + 60) v.2.2.2 = now + 60
   unfold maxI; split <;> omega
  ·have e : upQ L (w.1, w.2.2.1, w.2.2.2, now + 60) = (w.1, w.2.2.1, w.2.2.2, now + 60) := upN_none fun v hm hs => hw ⟨v, hm, hs⟩
   rw [e]
   exact ⟨rfl, rfl, Int.le_refl _, rfl⟩
 ·exact .inr hx
theorem EInv.lend {m now : Int} (hn : 0 ≤ now) {L : List Lease_T} {W : List Wait_T} (h : EInv m now L W) {w : Wait_T} (hw : wOk w) (hf : w.2.2.1 ≤ m) (hm : mayQd L W now w = true) : EInv m now (letsL L now w) (dropFw W w.1) := by
 have hmem := lets_mem h.d.a.inv h.u w
 refine ⟨h.d.lend hn hw hm, dropO_inv h.o, fun x hx => ?_, fun x hx => ?_, fun v hv => h.fw v (dropw_mem hv)⟩
 ·rcases hmem x hx with hx | hx
  ·omega
  ·exact h.u x hx.1
 ·rcases hmem x hx with hx | hx
  ·omega
  ·exact h.fl x hx.1
theorem EInv.put {m now : Int} {L : List Lease_T} {W : List Wait_T} (h : EInv m now L W) {w : Wait_T} (hw : wOk w) (hf : w.2.2.1 ≤ m) : EInv m now L (putQw W w).1 := by
 obtain ⟨p1, p2, p3⟩ := putQ_spec (w := w) h.d.l
 refine ⟨⟨h.d.a, fun v hv => ?_, p1⟩, putO_inv w h.o, h.u, h.fl, fun v hv => ?_⟩
 ·rcases p3 v hv with hv | rfl
  ·exact h.d.w v hv
  ·exact hw
 ·rcases p3 v hv with hv | rfl
  ·exact h.fw v hv
  ·exact hf
theorem rnN_E {m : Int} (now : Int) (hn : 0 ≤ now) : ∀ (n : Nat) (D : Desk_T) (a : List Wait_T), EInv m now D.1.2 D.2.2 → EInv m now (rnN now n D a).1.1.2 (rnN now n D a).1.2.2
 | 0, D, a, h => h
 | n + 1, D, a, h => by
  unfold rnN
  by_cases hc : posR D now < 0
  ·rw [if_pos hc]; exact h
  ·rw [if_neg hc]
   obtain ⟨p1, p2⟩ := pos_spec2 hc
   have h1 := h.lend hn (h.d.w _ p1) (h.fw _ p1) p2
   exact rnN_E now hn n (nextD D now _) _ h1
theorem run_E {m now now' : Int} (hn : 0 ≤ now') (hle : now ≤ now') {D : Desk_T} (h : EInv m now D.1.2 D.2.2) : EInv m now' (runQ D now').1.2 (runQ D now').2.1.2 :=
 rnN_E now' hn (pruD D now').2.2.length (pruD D now') [] (h.prune hle)
theorem ask_E {m now : Int} (hn : 0 ≤ now) {L : List Lease_T} {W : List Wait_T} (h : EInv m now L W) {w : Wait_T} (hw : wOk w) (hf : w.2.2.1 ≤ m) : EInv m now (askQ L W now w).1.2 (askQ L W now w).2.1.2 := by
 have e : askQ L W now w = if mayQd (pruneQ L now) W now w = true then ((false, letsL (pruneQ L now) now w), (W.isEmpty, letsW W w), true, (true, []), 0)
  else if (putQw W w).2 = false then ((L.isEmpty, pruneQ L now), (W.isEmpty, W), false, (true, []), 3)
  else ((L.isEmpty, pruneQ L now), (false, (putQw W w).1), false, ((csF (pruneQ L now) now w.1 w.2.2.1 w.2.2.2).isEmpty, csF (pruneQ L now) now w.1 w.2.2.1 w.2.2.2), 0) := rfl
 have hP := h.prune (Int.le_refl now)
 rw [e]
 split
 ·next hc => exact hP.lend hn hw hf hc
 ·split
  ·exact hP
  ·exact hP.put hw hf
theorem ask_eq {m now : Int} (hn : 0 ≤ now) {D : Desk_T} (h : EInv m now D.1.2 D.2.2) {w : Wait_T} (hw : wOk w) : (asRQ D now w).1.2 = (askQ D.1.2 D.2.2 now w).1.2 ∧ (asRQ D now w).2.1.2 = (askQ D.1.2 D.2.2 now w).2.1.2 ∧ (asRQ D now w).2.2.1 = (askQ D.1.2 D.2.2 now w).2.2.1 ∧ (asRQ D now w).2.2.2.1.2 = (askQ D.1.2 D.2.2 now w).2.2.2.1.2 ∧ (asRQ D now w).2.2.2.2 = (askQ D.1.2 D.2.2 now w).2.2.2.2 := by
 have e : askQ D.1.2 D.2.2 now w = if mayQd (pruneQ D.1.2 now) D.2.2 now w = true then ((false, letsL (pruneQ D.1.2 now) now w), (D.2.2.isEmpty, letsW D.2.2 w), true, (true, []), 0)
  else if (putQw D.2.2 w).2 = false then ((D.1.2.isEmpty, pruneQ D.1.2 now), (D.2.2.isEmpty, D.2.2), false, (true, []), 3)
  else ((D.1.2.isEmpty, pruneQ D.1.2 now), (false, (putQw D.2.2 w).1), false, ((csF (pruneQ D.1.2 now) now w.1 w.2.2.1 w.2.2.2).isEmpty, csF (pruneQ D.1.2 now) now w.1 w.2.2.1 w.2.2.2), 0) := rfl
 have e' : asRQ D now w = if freeQ (pruneQ D.1.2 now) D.2.2 now w = true then ((false, lendL (pruneQ D.1.2 now) now w), ((dropFw D.2.2 w.1).isEmpty, dropFw D.2.2 w.1), true, (true, []), 0)
  else if (putRQw D.2.2 w).2 = false then (((pruneQ D.1.2 now).isEmpty, pruneQ D.1.2 now), D.2, false, (true, []), 3)
  else (((pruneQ D.1.2 now).isEmpty, pruneQ D.1.2 now), (putRXw D.2.1 D.2.2 w, (putRQw D.2.2 w).1), false, ((rcF (pruneQ D.1.2 now) now w.1 w.2.2.1 w.2.2.2).isEmpty, rcF (pruneQ D.1.2 now) now w.1 w.2.2.1 w.2.2.2), 0) := rfl
 have hP := h.prune (Int.le_refl now)
 rw [e, e', free_eq hP.d.a.inv, putO_mem w h.o, clash_eq hP.d.a.inv]
 split
 ·next hc => exact ⟨(lend_inv hn hP.d.a hw (may_cs hc).1).2, rfl, rfl, rfl, rfl⟩
 ·split
  ·exact ⟨rfl, rfl, rfl, rfl, rfl⟩
  ·exact ⟨rfl, rfl, rfl, rfl, rfl⟩
theorem rr_eq {now : Int} (hn : 0 ≤ now) : ∀ (n i m : Nat) (D D' : Desk_T) (a : List Wait_T), D.1.2 = D'.1.2 → D.2.2 = D'.2.2 → DInv now D.1.2 D.2.2 → D.2.2.length ≤ 50 → D.2.2.length * 51 + (D.2.2.length - i) ≤ n → D.2.2.length ≤ m → (∀ v ∈ D.2.2.take i, mayQd D.1.2 D.2.2 now v = false) → (rrN now n i D a).1.1.2 = (rnN now m D' a).1.1.2 ∧ (rrN now n i D a).1.2.2 = (rnN now m D' a).1.2.2 ∧ (rrN now n i D a).2 = (rnN now m D' a).2
 | 0, i, m, D, D', a, hL, hW, hd, h50, hm, hmm, hi => by
  have e : D'.2.2.length = 0 := by rw [← hW]; omega
  have h0 : rnN now m D' a = (D', a) := by
   cases m with
   | zero => rfl
   | succ m =>
    have : posR D' now = -1 := firstN_none fun v hv => by rw [List.eq_nil_of_length_eq_zero e] at hv; cases hv
    show (if posR D' now < 0 then (D', a) else _) = _
    rw [if_pos (by omega)]
  rw [h0]
  exact ⟨hL, hW, rfl⟩
 | n + 1, i, m, D, D', a, hL, hW, hd, h50, hm, hmm, hi => by
  unfold rrN
  by_cases hlt : i < D.2.2.length
  ·rw [dif_pos hlt]
   have hv := hd.w _ (List.getElem_mem hlt)
   by_cases hc : freeQ D.1.2 D.2.2 now D.2.2[i] = true
   ·rw [if_pos hc]
    rw [free_eq hd.a.inv] at hc
    have hp : posR D' now = (i : Int) := by
     have : posR D' now = firstN (fun v => mayQd D.1.2 D.2.2 now v) D.2.2 0 := by rw [hL, hW]; rfl
     rw [this, firstN_at hlt hc hi]; omega
    cases m with
    | zero => omega
    | succ m =>
     have hs : rnN now (m + 1) D' a = rnN now m (nextD D' now D.2.2[i]) (a ++ [D.2.2[i]]) := by
      have e2 : D'.2.2.getD (posR D' now).toNat (0, 0, 0, 0) = D.2.2[i] := by rw [hp, Int.toNat_natCast, ← hW, getD_at hlt]
      show (if posR D' now < 0 then (D', a) else rnN now m (nextD D' now (D'.2.2.getD (posR D' now).toNat (0, 0, 0, 0))) (a ++ [D'.2.2.getD (posR D' now).toNat (0, 0, 0, 0)])) = _
      rw [if_neg (by omega), e2]
     rw [hs]
     obtain ⟨l1, l2⟩ := nextR_len (D := D) (now := now) (List.getElem_mem hlt)
     have hle := (lend_inv hn hd.a hv (may_cs hc).1).2
     have hd' := hd.lend hn hv hc
     rw [← hle] at hd'
     generalize D.2.2[i] = v at *
     refine rr_eq hn n 0 m (nextR D now v) (nextD D' now v) (a ++ [v]) ?_ ?_ hd' (by omega) (by omega) (by omega) (fun v hv => by simp at hv)
     ·show lendL D.1.2 now v = letsL D'.1.2 now v
      rw [hle, hL]
     ·show dropFw D.2.2 v.1 = dropFw D'.2.2 v.1
      rw [hW]
   ·rw [if_neg hc]
    refine rr_eq hn n (i + 1) m D D' a hL hW hd h50 (by omega) hmm fun v hv => ?_
    rw [List.take_succ_eq_append_getElem hlt] at hv
    rcases List.mem_append.1 hv with hv | hv
    ·exact hi v hv
    ·rw [List.mem_singleton.1 hv, ← free_eq hd.a.inv]; simpa using hc
  ·rw [dif_neg hlt]
   have h0 : rnN now m D' a = (D', a) := by
    cases m with
    | zero => rfl
    | succ m =>
     have : posR D' now = -1 := by
      have : posR D' now = firstN (fun v => mayQd D.1.2 D.2.2 now v) D.2.2 0 := by rw [hL, hW]; rfl
      rw [this]
      exact firstN_none fun v hv => hi v (by rw [List.take_of_length_le (by omega)]; exact hv)
     show (if posR D' now < 0 then (D', a) else _) = _
     rw [if_pos (by omega)]
   rw [h0]
   exact ⟨hL, hW, rfl⟩
theorem calls_eq {L : List Lease_T} (h : LInv L) (now : Int) : ∀ (W : List Wait_T) (b : List P2_T), callsR L now W b = callsN L now W b
 | [], b => rfl
 | v :: r, b => by
  show callsR L now r (putsC b v.2.2.1 (rcF L now v.1 v.2.2.1 v.2.2.2)) = callsN L now r (putsC b v.2.2.1 (csF L now v.1 v.2.2.1 v.2.2.2))
  rw [clash_eq h, calls_eq h now r]
theorem run_eq {m now now' : Int} (hn : 0 ≤ now') (hle : now ≤ now') {D : Desk_T} (h : EInv m now D.1.2 D.2.2) : (ruRQ D now').1.2 = (runQ D now').1.2 ∧ (ruRQ D now').2.1.2 = (runQ D now').2.1.2 ∧ (ruRQ D now').2.2.1.2 = (runQ D now').2.2.1.2 ∧ (ruRQ D now').2.2.2.2 = (runQ D now').2.2.2.2 := by
 have hP := h.prune hle
 have h4 := h.d.l
 have hr := rr_eq hn ((pruR D now').2.2.length * 51 + (pruR D now').2.2.length) 0 (pruD D now').2.2.length (pruR D now') (pruD D now') [] rfl rfl hP.d (by show D.2.2.length ≤ 50; omega) (Nat.le_refl _) (Nat.le_refl _) (fun v hv => by simp at hv)
 have hE := run_E (m := m) hn hle h
 have e1 : (rrD (pruR D now') now').1.2 = (rnD (pruD D now') now').1.2 := hr.1
 have e2 : (rrD (pruR D now') now').2.2 = (rnD (pruD D now') now').2.2 := hr.2.1
 have e3 : rrA (pruR D now') now' = rnA (pruD D now') now' := hr.2.2
 have hi : LInv (rnD (pruD D now') now').1.2 := hE.d.a.inv
 refine ⟨e1, e2, e3, ?_⟩
 show callsR (rrD (pruR D now') now').1.2 now' (rrD (pruR D now') now').2.2 [] = callsN (rnD (pruD D now') now').1.2 now' (rnD (pruD D now') now').2.2 []
 rw [e1, e2, calls_eq hi]

end Go.Proofs.Ytkanmigbbpppnaa
