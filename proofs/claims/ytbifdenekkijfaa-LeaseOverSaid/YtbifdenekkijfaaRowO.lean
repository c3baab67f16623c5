/- LeaseOver: it answers true, whatever its arguments are, and they read as they did. It holds with no condition. -/
import Derived.Test.YtbifdenekkijfaaRows
import Derived.Test.YtbifdenekkijfaaChecked
import Derived.Test.YtbifdenekkijfaaG
set_option linter.unusedVariables false
set_option maxRecDepth 100000
namespace Go.Proofs.Ytbifdenekkijfaa
open Go.ChangeShapes Go.WideShapes Go.ChangeAt Go.RowKit Go.Ab

theorem Try.own : ownKnob Try.prog.godebug = none := by kernel_rfl
theorem law_sig : sigF Try.prog Try.f6.params.toList = some (leaseOver_sh, leaseOver_fs) := by kernel_rfl
theorem law_hu : ∀ d : Tu leaseOver_fs, Tu.wf leaseOver_fs d → ∃ r, evF Try.prog (cfg.with D7) 21 6 (groupA leaseOver_sh (Tu.mk leaseOver_fs d)) [] = some r ∧ r.pan = false ∧ r.res = .bool true
  | ((picks_x, picks), now, later, client, f), h => yes_law (lp := LP0) rfl fLoops_none (by rw [leaseOver_w]; exact leaseOver_yes picks_x picks now later client f h)

theorem law_lifted (os : Os) (started : os.Started) (H : Type) (enc : TypeId × Value → H) :
    ReturnsInHanded {} Try.checked os 6 .any (Rows.leaseOverSpec.pre6 enc Try.prog Try.f6 Rows.leaseOverRow.domain false) (Rows.leaseOverSpec.post enc Try.prog Try.f6 false true false false) := by
  refine returnsInHanded_of_change (C := Try.checked) Try.own started (by kernel_rfl) Try.func6
    (ChangeSpec.witness6 (enc := enc) (C := Try.checked) false ⟨#[], #[.slice none 0 0, .int .u8 0, .int .u8 0, .int .u8 0, .int .u8 0], []⟩ 8 (by kernel_rfl) (by kernel_rfl) (by kernel_rfl) (by kernel_rfl)) ?_
  intro W base args ds gs before hval0 hW hcnd _
  have hW' := hW
  obtain ⟨p, q, hA, hV, rfl, hfz, hnd⟩ := hW
  obtain ⟨rfl, rfl⟩ := trodVars_none hV
  have hlen : ds.length = 5 := (trod_len hA).trans (by kernel_rfl)
  obtain ⟨d1, d2, d3, d4, d5, rfl⟩ : ∃ d1 d2 d3 d4 d5, ds = [d1, d2, d3, d4, d5] := by
    match ds, hlen with
    | [d1, d2, d3, d4, d5], _ => exact ⟨d1, d2, d3, d4, d5, rfl⟩
  simp only [List.append_nil] at hW'
  refine (law_calls (enc := enc) (fnOk D7_ok 21) law_sig law_hu (base := base) (fun j t v h1 h2 => hval0 j t v (by simpa using h1) (by simpa using h2)) hA).mono fun e W' ⟨he, h1, h2, h3, h4⟩ => ?_
  subst he
  exact ⟨_, rfl, post_of_old (pa := p) (pv := []) hW' (fun _ _ _ => trodAll_mk1 (shut_bool Try.underlying4 true)) (fun sp hsp => h4 sp hsp) (fun _ _ => rfl) (by simp) h1 h2 h3
    (ok_one (by kernel_rfl) rfl (okWide_bool_mk Try.underlying4 true))⟩

theorem leaseOver_holds : Rows.LeaseOverSaid :=
  OpenClaim.holds_of_wide 6 Try.f6 rfl rfl rfl rfl rfl rfl rfl ⟨rfl, rfl, rfl, rfl, rfl⟩ rfl rfl rfl rfl rfl (by kernel_rfl) Try.func6 (by kernel_rfl)
    (of_decide_eq_true (by kernel_rfl)) (by unfold Func.isWrapper; first | (rw [if_pos (by decide +kernel)]; kernel_rfl) | (rw [if_neg (by decide +kernel)]; exact ⟨rfl, rfl⟩))
    (fun os started H enc _ => law_lifted os started H enc)
end Go.Proofs.Ytbifdenekkijfaa
#print axioms Go.Proofs.Ytbifdenekkijfaa.leaseOver_holds
