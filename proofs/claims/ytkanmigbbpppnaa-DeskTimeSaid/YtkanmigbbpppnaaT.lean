/- A part of the proof: contracts of functions. -/
import Derived.Test.YtkanmigbbpppnaaS
import Derived.Test.YtkanmigbbpppnaaAbAny

set_option linter.unusedVariables false
set_option linter.unusedSimpArgs false
set_option maxRecDepth 100000
namespace Go.Proofs.Ytkanmigbbpppnaa
open Go Go.Ab
def holdQ (l : List Lease_T) (now c f : Int) : Int := if bsI l (c, f, 0, 0) = true then (if (l.getD (bsQ l (c, f, 0, 0)).toNat zL).2.2.2 ≤ now then 0 else (l.getD (bsQ l (c, f, 0, 0)).toNat zL).2.2.1) else 0
noncomputable def holdsS : FS := ⟨holds_sh, holds_fs, holds_rsh, holds_rfs, fun d => d.1.2.length ≤ 100000, fun d => holdQ d.1.2 d.2.1 d.2.2.1 d.2.2.2, none⟩
theorem holds_v (l_x : Bool) (l : List Lease_T) (now : Int) (client : Int) (file : Int) (h : holdsS.pre ((l_x, l), now, client, file)) : holds_r l_x l now client file = some (holdsS.ret ((l_x, l), now, client, file)) := by
 have h' : l.length ≤ 100000 := h
 show _ = some (holdsS.out (holdQ l now client file))
 have e : holdQ l now client file = if bsI l (client, file, 0, 0) = true then (if (l.getD (bsQ l (client, file, 0, 0)).toNat zL).2.2.2 ≤ now then 0 else (l.getD (bsQ l (client, file, 0, 0)).toNat zL).2.2.1) else 0 := rfl
 rw [e]
 unfold holds_r
 refine oK_pkq (Q := (· = _)) bsA_inj ((l_x, l), (client, file, (0 : Int), (0 : Int))) h' ?_
 dsimp only
 have h0 : 0 ≤ bsQ l (client, file, 0, 0) := by show (0 : Int) ≤ ((bsN l (client, file, 0, 0) l.length 0 l.length : Nat) : Int); omega
 have hi : bsI l (client, file, 0, 0) = true → bsQ l (client, file, 0, 0) < (l.length : Int) := fun hb => by
  have e2 : bsI l (client, file, 0, 0) = (decide (bsQ l (client, file, 0, 0) < (l.length : Int)) && decide (ordF (l.getD (bsQ l (client, file, 0, 0)).toNat zL) (client, file, 0, 0) = 0)) := rfl
  rw [e2] at hb
  simp only [Bool.and_eq_true, decide_eq_true_eq] at hb
  exact hb.1
 generalize bsQ l (client, file, 0, 0) = q at h0 hi ⊢
 cases hb : bsI l (client, file, 0, 0) with
 | false => rfl
 | true =>
  have hq := hi hb
  rw [show (!true) = false from rfl, bK_F, if_pos rfl]
  refine oK_atq (Q := (· = _)) (fs := Lease_tfs) zL h0 (by omega) ?_
  refine bK_iq (Q := (· = _)) (fun c => ?_) (fun c => ?_)
  ·rw [if_pos c]; rfl
  ·rw [if_neg c]
   exact oK_atq (Q := (· = _)) (fs := Lease_tfs) zL h0 (by omega) rfl
theorem holdsO : ∀ d : Tu holdsS.fs, holdsS.pre d → CallOk Try.prog 64 (holdsS.args d) [] (holdsS.ret d)
 | ((l_x, l), now, client, file), h => CallOk.unit (fnOk S1_ok 21) rfl fLoops_none (o := false) (by show 0 ≤ 1000; decide) ((holds_w l_x l now client file).trans (holds_v l_x l now client file h))
noncomputable def T1 : PKs := S1.add 64 holdsS.pk
theorem T1_ok : PKsOk Try.prog T1 := PKsOk.anyF S1_ok 64 holdsS holdsO

end Go.Proofs.Ytkanmigbbpppnaa
