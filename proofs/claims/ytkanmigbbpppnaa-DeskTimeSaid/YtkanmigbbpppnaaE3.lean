/- A part of the proof: contracts of functions. -/
import Derived.Test.YtkanmigbbpppnaaD3
import Derived.Test.YtkanmigbbpppnaaAbAny

set_option linter.unusedVariables false
set_option linter.unusedSimpArgs false
set_option maxRecDepth 100000
namespace Go.Proofs.Ytkanmigbbpppnaa
open Go Go.Ab
theorem rrN_len (now : Int) : ∀ (n i : Nat) (D : Desk_T) (a : List Wait_T), (rrN now n i D a).1.2.2.length ≤ D.2.2.length ∧ (rrN now n i D a).1.1.2.length + (rrN now n i D a).1.2.2.length ≤ D.1.2.length + D.2.2.length
 | 0, i, D, a => ⟨Nat.le_refl _, Nat.le_refl _⟩
 | n + 1, i, D, a => by
  unfold rrN
  by_cases hi : i < D.2.2.length
  ·rw [dif_pos hi]
   obtain ⟨l1, l2⟩ := nextR_len (D := D) (now := now) (List.getElem_mem hi)
   generalize D.2.2[i] = v at l1 l2
   by_cases hc : freeQ D.1.2 D.2.2 now v = true
   ·rw [if_pos hc]
    obtain ⟨h1, h2⟩ := rrN_len now n 0 (nextR D now v) (a ++ [v])
    exact ⟨by omega, by omega⟩
   ·rw [if_neg hc]
    exact rrN_len now n (i + 1) D a
  ·rw [dif_neg hi]; exact ⟨Nat.le_refl _, Nat.le_refl _⟩
def pruR (D : Desk_T) (now : Int) : Desk_T := (((pruneQ D.1.2 now).isEmpty, pruneQ D.1.2 now), D.2)
def ruRQ (D : Desk_T) (now : Int) : RunR := ((rrD (pruR D now) now).1, (rrD (pruR D now) now).2, ((rrA (pruR D now) now).isEmpty, rrA (pruR D now) now), ((calRQ (rrD (pruR D now) now).1.2 (rrD (pruR D now) now).2.2 now).isEmpty, calRQ (rrD (pruR D now) now).1.2 (rrD (pruR D now) now).2.2 now))
noncomputable def rrunS : FS := ⟨rrun_sh, rrun_fs, rrun_rsh, rrun_rfs, fun d => (d.1.2.length ≤ 400 ∧ d.2.1.2.length ≤ 50) ∧ (0 ≤ d.2.2 ∧ d.2.2 ≤ 1000000), fun d => ruRQ (d.1, d.2.1) d.2.2, none⟩
theorem rrunO : ∀ d : Tu rrunS.fs, rrunS.pre d → CallOk Try.prog 15 (rrunS.args d) [] (rrunS.ret d) := by
 rintro ⟨⟨lx, L⟩, ⟨wx, W⟩, now⟩ ⟨⟨h0, h1⟩, h2⟩
 have h0 : L.length ≤ 400 := h0
 have h1 : W.length ≤ 50 := h1
 refine CallOk.unit (fnOk Rc4_ok 21) rfl f0P_ok.loops (o := false) (by show 0 ≤ 1000; decide) ((rrun_w lx L wx W now).trans ?_)
 show _ = some (rrunS.out (ruRQ ((lx, L), (wx, W)) now))
 have hp : (pruneQ L now).length ≤ L.length := List.length_filter_le _ _
 have e0 : ruRQ ((lx, L), (wx, W)) now = ((rrD (((pruneQ L now).isEmpty, pruneQ L now), (wx, W)) now).1, (rrD (((pruneQ L now).isEmpty, pruneQ L now), (wx, W)) now).2, ((rrA (((pruneQ L now).isEmpty, pruneQ L now), (wx, W)) now).isEmpty, rrA (((pruneQ L now).isEmpty, pruneQ L now), (wx, W)) now), ((calRQ (rrD (((pruneQ L now).isEmpty, pruneQ L now), (wx, W)) now).1.2 (rrD (((pruneQ L now).isEmpty, pruneQ L now), (wx, W)) now).2.2 now).isEmpty, calRQ (rrD (((pruneQ L now).isEmpty, pruneQ L now), (wx, W)) now).1.2 (rrD (((pruneQ L now).isEmpty, pruneQ L now), (wx, W)) now).2.2 now)) := rfl
 rw [e0]
 unfold rrun_r
 refine oK_fsq (Q := (· = _)) prefS ((lx, L), now) (by show L.length ≤ 100000; omega) ?_
 refine oK_lpf (Q := (· = _)) f0Hd_inj ((((pruneQ L now).isEmpty, pruneQ L now), (wx, W)), now) ⟨by show W.length ≤ 50; omega, by show (pruneQ L now).length ≤ 500; omega, h2.1, h2.2⟩ rfl ?_
 dsimp only
 have hlen : (rrD (((pruneQ L now).isEmpty, pruneQ L now), (wx, W)) now).2.2.length ≤ W.length ∧ (rrD (((pruneQ L now).isEmpty, pruneQ L now), (wx, W)) now).1.2.length + (rrD (((pruneQ L now).isEmpty, pruneQ L now), (wx, W)) now).2.2.length ≤ (pruneQ L now).length + W.length := rrN_len now _ 0 (((pruneQ L now).isEmpty, pruneQ L now), (wx, W)) []
 generalize rrD (((pruneQ L now).isEmpty, pruneQ L now), (wx, W)) now = D at hlen ⊢
 generalize rrA (((pruneQ L now).isEmpty, pruneQ L now), (wx, W)) now = A
 have hpre : D.2.2.length ≤ 50 ∧ D.1.2.length ≤ 1000 := ⟨by omega, by omega⟩
 cases A with
 | nil =>
  refine bK_tq (Q := (· = _)) rfl ?_
  refine oK_lpf (Q := (· = _)) e2Hd_inj ((D, now), []) hpre rfl ?_
  dsimp only
  refine bK_tq (Q := (· = _)) rfl ?_
  generalize calRQ D.1.2 D.2.2 now = C
  cases C with
  | nil => exact bK_tq (Q := (· = _)) rfl rfl
  | cons c0 cr =>
   refine bK_fq (Q := (· = _)) rfl (bK_tq (Q := (· = _)) (by simp) ?_)
   rw [List.drop_zero, List.take_length]
   rfl
 | cons a0 ar =>
  refine bK_fq (Q := (· = _)) rfl ?_
  refine oK_lpf (Q := (· = _)) e2Hd_inj ((D, now), a0 :: ar) hpre rfl ?_
  dsimp only
  refine bK_fq (Q := (· = _)) rfl ?_
  generalize calRQ D.1.2 D.2.2 now = C
  cases C with
  | nil =>
   refine bK_tq (Q := (· = _)) rfl (bK_tq (Q := (· = _)) (by simp) ?_)
   rw [List.drop_zero, List.take_length]
   rfl
  | cons c0 cr =>
   refine bK_fq (Q := (· = _)) rfl (bK_tq (Q := (· = _)) (by simp) (bK_tq (Q := (· = _)) (by simp) ?_))
   rw [List.drop_zero, List.take_length, List.drop_zero, List.take_length]
   rfl
noncomputable def girefS : FS := ⟨giref_sh, giref_fs, giref_rsh, giref_rfs, fun d => d.1.2.length ≤ 100000, fun d => (((dropQ d.1.2 d.2.2.1 d.2.2.2).isEmpty, dropQ d.1.2 d.2.2.1 d.2.2.2), d.2.1), none⟩
theorem girefO : ∀ d : Tu girefS.fs, girefS.pre d → CallOk Try.prog 13 (girefS.args d) [] (girefS.ret d) := by
 rintro ⟨⟨lx, L⟩, ⟨wx, W⟩, c, f⟩ h1
 refine CallOk.unit (fnOk Z1_ok 21) rfl fLoops_none (o := false) (by show 0 ≤ 1000; decide) ((giref_w lx L wx W c f).trans ?_)
 show _ = some (girefS.out (((dropQ L c f).isEmpty, dropQ L c f), (wx, W)))
 unfold giref_r
 refine oK_fsq (Q := (· = _)) drefoS ((lx, L), c, f) h1 ?_
 dsimp only
 generalize dropQ L c f = G
 cases G with
 | nil => exact bK_tq (Q := (· = _)) rfl rfl
 | cons a r =>
  refine bK_fq (Q := (· = _)) rfl (bK_tq (Q := (· = _)) (by simp) ?_)
  rw [List.drop_zero, List.take_length]
  rfl
def asRQ (D : Desk_T) (now : Int) (w : Wait_T) : AskR :=
 if freeQ (pruneQ D.1.2 now) D.2.2 now w = true then ((false, lendL (pruneQ D.1.2 now) now w), ((dropFw D.2.2 w.1).isEmpty, dropFw D.2.2 w.1), true, (true, []), 0)
 else if (putRQw D.2.2 w).2 = false then (((pruneQ D.1.2 now).isEmpty, pruneQ D.1.2 now), D.2, false, (true, []), 3)
 else (((pruneQ D.1.2 now).isEmpty, pruneQ D.1.2 now), (putRXw D.2.1 D.2.2 w, (putRQw D.2.2 w).1), false, ((rcF (pruneQ D.1.2 now) now w.1 w.2.2.1 w.2.2.2).isEmpty, rcF (pruneQ D.1.2 now) now w.1 w.2.2.1 w.2.2.2), 0)
noncomputable def arefS : FS := ⟨aref_sh, aref_fs, aref_rsh, aref_rfs, fun d => (d.1.2.length ≤ 100000 ∧ d.2.1.2.length ≤ 100000) ∧ (0 ≤ d.2.2.1 ∧ d.2.2.1 ≤ 1000000), fun d => asRQ (d.1, d.2.1) d.2.2.1 d.2.2.2, none⟩
theorem arefO : ∀ d : Tu arefS.fs, arefS.pre d → CallOk Try.prog 18 (arefS.args d) [] (arefS.ret d) := by
 rintro ⟨⟨lx, L⟩, ⟨wx, W⟩, now, w⟩ ⟨⟨h1, h2⟩, h3⟩
 have hp : (pruneQ L now).length ≤ 100000 := Nat.le_trans (List.length_filter_le _ _) h1
 refine CallOk.unit (fnOk Rc5_ok 21) rfl fLoops_none (o := false) (by show 0 ≤ 1000; decide) ((aref_w lx L wx W now w.1 w.2.1 w.2.2.1 w.2.2.2).trans ?_)
 show _ = some (arefS.out (asRQ ((lx, L), (wx, W)) now w))
 have e0 : asRQ ((lx, L), (wx, W)) now w = if freeQ (pruneQ L now) W now w = true then ((false, lendL (pruneQ L now) now w), ((dropFw W w.1).isEmpty, dropFw W w.1), true, (true, []), 0)
  else if (putRQw W w).2 = false then (((pruneQ L now).isEmpty, pruneQ L now), (wx, W), false, (true, []), 3)
  else (((pruneQ L now).isEmpty, pruneQ L now), (putRXw wx W w, (putRQw W w).1), false, ((rcF (pruneQ L now) now w.1 w.2.2.1 w.2.2.2).isEmpty, rcF (pruneQ L now) now w.1 w.2.2.1 w.2.2.2), 0) := rfl
 rw [e0]
 unfold aref_r
 refine oK_fsq (Q := (· = _)) prefS ((lx, L), now) h1 ?_
 refine oK_fsq (Q := (· = _)) dfreeS (((pruneQ L now).isEmpty, pruneQ L now), (wx, W), now, w) ⟨hp, h2⟩ ?_
 dsimp only
 cases hm : freeQ (pruneQ L now) W now w with
 | true =>
  rw [if_pos rfl]
  refine bK_tq (Q := (· = _)) rfl ?_
  exact oK_fsq (Q := (· = _)) dlendsS (((pruneQ L now).isEmpty, pruneQ L now), (wx, W), now, w) ⟨⟨hp, h2⟩, h3⟩ rfl
 | false =>
  rw [if_neg (by simp)]
  refine bK_fq (Q := (· = _)) rfl ?_
  refine oK_fsq (Q := (· = _)) putRSw ((wx, W), w) h2 ?_
  dsimp only
  cases hr : (putRQw W w).2 with
  | false =>
   rw [if_pos rfl]
   exact bK_tq (Q := (· = _)) rfl rfl
  | true =>
   rw [if_neg (by simp)]
   refine bK_fq (Q := (· = _)) rfl ?_
   exact oK_fsq (Q := (· = _)) crefS (((pruneQ L now).isEmpty, pruneQ L now), now, w.1, w.2.2.1, w.2.2.2) hp rfl

end Go.Proofs.Ytkanmigbbpppnaa
