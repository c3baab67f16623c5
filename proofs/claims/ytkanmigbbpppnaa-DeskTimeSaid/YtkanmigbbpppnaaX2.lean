/- A part of the proof: contracts of functions. -/
import Derived.Test.YtkanmigbbpppnaaW2
import Derived.Test.YtkanmigbbpppnaaAbAny

set_option linter.unusedVariables false
set_option linter.unusedSimpArgs false
set_option maxRecDepth 100000
namespace Go.Proofs.Ytkanmigbbpppnaa
open Go Go.Ab
theorem rnN_len (now : Int) : ∀ (n : Nat) (D : Desk_T) (a : List Wait_T), (rnN now n D a).1.2.2.length ≤ D.2.2.length ∧ (rnN now n D a).1.1.2.length ≤ D.1.2.length + n
 | 0, D, a => ⟨Nat.le_refl _, Nat.le_refl _⟩
 | n + 1, D, a => by
  unfold rnN
  by_cases hc : posR D now < 0
  ·rw [if_pos hc]; exact ⟨Nat.le_refl _, Nat.le_add_right _ _⟩
  ·rw [if_neg hc]
   obtain ⟨l1, l2⟩ := next_len hc
   obtain ⟨h1, h2⟩ := rnN_len now n (nextD D now (D.2.2.getD (posR D now).toNat (0, 0, 0, 0))) (a ++ [D.2.2.getD (posR D now).toNat (0, 0, 0, 0)])
   exact ⟨by omega, by omega⟩
abbrev RunR : Type := (Bool × List Lease_T) × (Bool × List Wait_T) × (Bool × List Wait_T) × (Bool × List P2_T)
def pruD (D : Desk_T) (now : Int) : Desk_T := ((D.1.2.isEmpty, pruneQ D.1.2 now), (D.2.2.isEmpty, D.2.2))
def runQ (D : Desk_T) (now : Int) : RunR := ((rnD (pruD D now) now).1, (rnD (pruD D now) now).2, ((rnA (pruD D now) now).isEmpty, rnA (pruD D now) now), ((callsQ (rnD (pruD D now) now).1.2 (rnD (pruD D now) now).2.2 now).isEmpty, callsQ (rnD (pruD D now) now).1.2 (rnD (pruD D now) now).2.2 now))
noncomputable def drunS : FS := ⟨drun_sh, drun_fs, drun_rsh, drun_rfs, fun d => (d.1.2.length + d.2.1.2.length ≤ 50) ∧ (0 ≤ d.2.2 ∧ d.2.2 ≤ 1000000), fun d => runQ (d.1, d.2.1) d.2.2, none⟩
theorem drunO : ∀ d : Tu drunS.fs, drunS.pre d → CallOk Try.prog 14 (drunS.args d) [] (drunS.ret d) := by
 rintro ⟨⟨lx, L⟩, ⟨wx, W⟩, now⟩ ⟨h1, h2⟩
 have h1 : L.length + W.length ≤ 50 := h1
 refine CallOk.unit (fnOk Ru1_ok 21) rfl r0P_ok.loops (o := false) (by show 0 ≤ 1000; decide) ((drun_w lx L wx W now).trans ?_)
 show _ = some (drunS.out (runQ ((lx, L), (wx, W)) now))
 have hp : (pruneQ L now).length ≤ L.length := List.length_filter_le _ _
 have e0 : runQ ((lx, L), (wx, W)) now = ((rnD ((L.isEmpty, pruneQ L now), (W.isEmpty, W)) now).1, (rnD ((L.isEmpty, pruneQ L now), (W.isEmpty, W)) now).2, ((rnA ((L.isEmpty, pruneQ L now), (W.isEmpty, W)) now).isEmpty, rnA ((L.isEmpty, pruneQ L now), (W.isEmpty, W)) now), ((callsQ (rnD ((L.isEmpty, pruneQ L now), (W.isEmpty, W)) now).1.2 (rnD ((L.isEmpty, pruneQ L now), (W.isEmpty, W)) now).2.2 now).isEmpty, callsQ (rnD ((L.isEmpty, pruneQ L now), (W.isEmpty, W)) now).1.2 (rnD ((L.isEmpty, pruneQ L now), (W.isEmpty, W)) now).2.2 now)) := rfl
 rw [e0]
 unfold drun_r
 refine oK_fsq (Q := (· = _)) prunedS ((lx, L), (wx, W), now) ⟨by show L.length ≤ 100000; omega, by show W.length ≤ 100000; omega⟩ ?_
 refine oK_lpf (Q := (· = _)) r0Hd_inj (((L.isEmpty, pruneQ L now), (W.isEmpty, W)), now) ⟨by show W.length ≤ 50; omega, by show (pruneQ L now).length ≤ 50; omega, h2.1, h2.2⟩ rfl ?_
 dsimp only
 have hlen : (rnD ((L.isEmpty, pruneQ L now), (W.isEmpty, W)) now).2.2.length ≤ W.length ∧ (rnD ((L.isEmpty, pruneQ L now), (W.isEmpty, W)) now).1.2.length ≤ (pruneQ L now).length + W.length := rnN_len now W.length ((L.isEmpty, pruneQ L now), (W.isEmpty, W)) []
 generalize rnD ((L.isEmpty, pruneQ L now), (W.isEmpty, W)) now = D at hlen ⊢
 generalize rnA ((L.isEmpty, pruneQ L now), (W.isEmpty, W)) now = A
 have hpre : ∀ A : List Wait_T, D.2.2.length ≤ 50 ∧ D.1.2.length ≤ 50 := fun _ => ⟨by omega, by omega⟩
 cases A with
 | nil =>
  refine bK_tq (Q := (· = _)) rfl ?_
  refine oK_lpf (Q := (· = _)) r2Hd_inj ((D, now), D.2, []) (hpre []) rfl ?_
  dsimp only
  refine bK_tq (Q := (· = _)) rfl ?_
  generalize callsQ D.1.2 D.2.2 now = C
  cases C with
  | nil => exact bK_tq (Q := (· = _)) rfl rfl
  | cons c0 cr =>
   refine bK_fq (Q := (· = _)) rfl (bK_tq (Q := (· = _)) (by simp) ?_)
   rw [List.drop_zero, List.take_length]
   rfl
 | cons a0 ar =>
  refine bK_fq (Q := (· = _)) rfl ?_
  refine oK_lpf (Q := (· = _)) r2Hd_inj ((D, now), D.2, a0 :: ar) (hpre []) rfl ?_
  dsimp only
  refine bK_fq (Q := (· = _)) rfl ?_
  generalize callsQ D.1.2 D.2.2 now = C
  cases C with
  | nil =>
   refine bK_tq (Q := (· = _)) rfl (bK_tq (Q := (· = _)) (by simp) ?_)
   rw [List.drop_zero, List.take_length]
   rfl
  | cons c0 cr =>
   refine bK_fq (Q := (· = _)) rfl (bK_tq (Q := (· = _)) (by simp) (bK_tq (Q := (· = _)) (by simp) ?_))
   rw [List.drop_zero, List.take_length, List.drop_zero, List.take_length]
   rfl

end Go.Proofs.Ytkanmigbbpppnaa
