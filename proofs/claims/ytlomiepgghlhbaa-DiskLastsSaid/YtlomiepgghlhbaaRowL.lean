/- DiskLasts: it answers true, whatever its arguments are, and they read as they did. It holds with no condition. -/
import Derived.Test.YtlomiepgghlhbaaRows
import Derived.Test.YtlomiepgghlhbaaChecked
import Derived.Test.YtlomiepgghlhbaaA
set_option linter.unusedVariables false
set_option maxRecDepth 100000
namespace Go.Proofs.Ytlomiepgghlhbaa
open Go.ChangeShapes Go.WideShapes Go.ChangeAt Go.RowKit Go.Ab

theorem Try.own : ownKnob Try.prog.godebug = none := by kernel_rfl
theorem law_sig : sigF Try.prog Try.f4.params.toList = some (diskLasts_sh, diskLasts_fs) := by kernel_rfl
theorem law_hu : ∀ d : Tu diskLasts_fs, Tu.wf diskLasts_fs d → ∃ r, evF Try.prog (cfg.with B7) 21 4 (groupA diskLasts_sh (Tu.mk diskLasts_fs d)) [] = some r ∧ r.pan = false ∧ r.res = .bool true
  | ((l_x, l), (m_x, m), (keep_x, keep)), h => yes_law (lp := dl4P) rfl dl4P_ok.loops (by rw [diskLasts_w]; exact diskLasts_yes l_x l m_x m keep_x keep h)

theorem law_lifted (os : Os) (started : os.Started) (H : Type) (enc : TypeId × Value → H) :
    ReturnsInHanded {} Try.checked os 4 .any (Rows.diskLastsSpec.pre6 enc Try.prog Try.f4 Rows.diskLastsRow.domain false) (Rows.diskLastsSpec.post enc Try.prog Try.f4 false true false false) := by
  refine returnsInHanded_of_change (C := Try.checked) Try.own started (by kernel_rfl) Try.func4
    (ChangeSpec.witness6 (enc := enc) (C := Try.checked) false ⟨#[], #[.slice none 0 0, .slice none 0 0, .slice none 0 0], []⟩ 8 (by kernel_rfl) (by kernel_rfl) (by kernel_rfl) (by kernel_rfl)) ?_
  intro W base args ds gs before hval0 hW hcnd _
  have hW' := hW
  obtain ⟨p, q, hA, hV, rfl, hfz, hnd⟩ := hW
  obtain ⟨rfl, rfl⟩ := trodVars_none hV
  have hlen : ds.length = 3 := (trod_len hA).trans (by kernel_rfl)
  obtain ⟨d1, d2, d3, rfl⟩ : ∃ d1 d2 d3, ds = [d1, d2, d3] := by
    match ds, hlen with
    | [d1, d2, d3], _ => exact ⟨d1, d2, d3, rfl⟩
  simp only [List.append_nil] at hW'
  refine (law_calls (enc := enc) (fnOk B7_ok 21) law_sig law_hu (base := base) (fun j t v h1 h2 => hval0 j t v (by simpa using h1) (by simpa using h2)) hA).mono fun e W' ⟨he, h1, h2, h3, h4⟩ => ?_
  subst he
  exact ⟨_, rfl, post_of_old (pa := p) (pv := []) hW' (fun _ _ _ => trodAll_mk1 (shut_bool Try.underlying4 true)) (fun sp hsp => h4 sp hsp) (fun _ _ => rfl) (by simp) h1 h2 h3
    (ok_one (by kernel_rfl) rfl (okWide_bool_mk Try.underlying4 true))⟩

theorem diskLasts_holds : Rows.DiskLastsSaid :=
  OpenClaim.holds_of_wide 4 Try.f4 rfl rfl rfl rfl rfl rfl rfl ⟨rfl, rfl, rfl, rfl, rfl⟩ rfl rfl rfl rfl rfl (by kernel_rfl) Try.func4 (by kernel_rfl)
    (of_decide_eq_true (by kernel_rfl)) (by unfold Func.isWrapper; first | (rw [if_pos (by decide +kernel)]; kernel_rfl) | (rw [if_neg (by decide +kernel)]; exact ⟨rfl, rfl⟩))
    (fun os started H enc _ => law_lifted os started H enc)
end Go.Proofs.Ytlomiepgghlhbaa
#print axioms Go.Proofs.Ytlomiepgghlhbaa.diskLasts_holds
