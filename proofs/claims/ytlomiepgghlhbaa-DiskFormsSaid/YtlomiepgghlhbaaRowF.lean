/- DiskForms: it answers true, whatever its arguments are, and they read as they did. It holds with no condition. -/
import Derived.Test.YtlomiepgghlhbaaRows
import Derived.Test.YtlomiepgghlhbaaChecked
import Derived.Test.YtlomiepgghlhbaaF
set_option linter.unusedVariables false
set_option maxRecDepth 100000
namespace Go.Proofs.Ytlomiepgghlhbaa
open Go.ChangeShapes Go.WideShapes Go.ChangeAt Go.RowKit Go.Ab

theorem Try.own : ownKnob Try.prog.godebug = none := by kernel_rfl
theorem law_sig : sigF Try.prog Try.f5.params.toList = some (diskForms_sh, diskForms_fs) := by kernel_rfl
theorem law_hu : ∀ d : Tu diskForms_fs, Tu.wf diskForms_fs d → ∃ r, evF Try.prog (cfg.with PKr) 21 5 (groupA diskForms_sh (Tu.mk diskForms_fs d)) [] = some r ∧ r.pan = false ∧ r.res = .bool true
  | (), _ => ⟨_, diskForms_e, rfl, rfl⟩

theorem law_lifted (os : Os) (started : os.Started) (H : Type) (enc : TypeId × Value → H) :
    ReturnsInHanded {} Try.checked os 5 .any (Rows.diskFormsSpec.pre6 enc Try.prog Try.f5 Rows.diskFormsRow.domain false) (Rows.diskFormsSpec.post enc Try.prog Try.f5 false true false false) := by
  refine returnsInHanded_of_change (C := Try.checked) Try.own started (by kernel_rfl) Try.func5
    (ChangeSpec.witness6 (enc := enc) (C := Try.checked) false ⟨#[], #[], []⟩ 8 (by kernel_rfl) (by kernel_rfl) (by kernel_rfl) (by kernel_rfl)) ?_
  intro W base args ds gs before hval0 hW hcnd _
  have hW' := hW
  obtain ⟨p, q, hA, hV, rfl, hfz, hnd⟩ := hW
  obtain ⟨rfl, rfl⟩ := trodVars_none hV
  have hlen : ds.length = 0 := (trod_len hA).trans (by kernel_rfl)
  have hnil : ds = [] := List.eq_nil_of_length_eq_zero hlen
  subst hnil
  simp only [List.append_nil] at hW'
  refine (law_calls (enc := enc) (fnOk PKr_ok 21) law_sig law_hu (base := base) (fun j t v h1 _ => (by simp at h1)) hA).mono fun e W' ⟨he, h1, h2, h3, h4⟩ => ?_
  subst he
  exact ⟨_, rfl, post_of_old (pa := p) (pv := []) hW' (fun _ _ _ => trodAll_mk1 (shut_bool Try.underlying4 true)) (fun sp hsp => h4 sp hsp) (fun _ _ => rfl) (by simp) h1 h2 h3
    (ok_one (by kernel_rfl) rfl (okWide_bool_mk Try.underlying4 true))⟩

theorem diskForms_holds : Rows.DiskFormsSaid :=
  OpenClaim.holds_of_wide 5 Try.f5 rfl rfl rfl rfl rfl rfl rfl ⟨rfl, rfl, rfl, rfl, rfl⟩ rfl rfl rfl rfl rfl (by kernel_rfl) Try.func5 (by kernel_rfl)
    (of_decide_eq_true (by kernel_rfl)) (by unfold Func.isWrapper; first | (rw [if_pos (by decide +kernel)]; kernel_rfl) | (rw [if_neg (by decide +kernel)]; exact ⟨rfl, rfl⟩))
    (fun os started H enc _ => law_lifted os started H enc)
end Go.Proofs.Ytlomiepgghlhbaa
#print axioms Go.Proofs.Ytlomiepgghlhbaa.diskForms_holds
