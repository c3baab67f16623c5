/- DeskTime: it answers true, whatever its arguments are, and they read as they did. It holds with no condition. -/
import Derived.Test.YtkanmigbbpppnaaRows
import Derived.Test.YtkanmigbbpppnaaChecked
import Derived.Test.YtkanmigbbpppnaaM4
set_option linter.unusedVariables false
set_option maxRecDepth 100000
namespace Go.Proofs.Ytkanmigbbpppnaa
open Go.ChangeShapes Go.WideShapes Go.ChangeAt Go.RowKit Go.Ab

theorem Try.own : ownKnob Try.prog.godebug = none := by kernel_rfl
theorem law_sig : sigF Try.prog Try.f4.params.toList = some (deskTime_sh, deskTime_fs) := by kernel_rfl
theorem law_hu : ∀ d : Tu deskTime_fs, Tu.wf deskTime_fs d → ∃ r, evF Try.prog (cfg.with Lt4) 21 4 (groupA deskTime_sh (Tu.mk deskTime_fs d)) [] = some r ∧ r.pan = false ∧ r.res = .bool true
  | ((picks_x, picks), c, f, m, (l_x, l)), h => yes_law (lp := dlP) rfl dlP_ok.loops (by rw [deskTime_w]; exact deskTime_yes picks_x picks c f m l_x l h)

theorem law_lifted (os : Os) (started : os.Started) (H : Type) (enc : TypeId × Value → H) :
    ReturnsInHanded {} Try.checked os 4 .any (Rows.deskTimeSpec.pre6 enc Try.prog Try.f4 Rows.deskTimeRow.domain false) (Rows.deskTimeSpec.post enc Try.prog Try.f4 false true false false) := by
  refine returnsInHanded_of_change (C := Try.checked) Try.own started (by kernel_rfl) Try.func4
    (ChangeSpec.witness6 (enc := enc) (C := Try.checked) false ⟨#[], #[.slice none 0 0, .int .u8 0, .int .u8 0, .int .u8 0, .slice none 0 0], []⟩ 8 (by kernel_rfl) (by kernel_rfl) (by kernel_rfl) (by kernel_rfl)) ?_
  intro W base args ds gs before hval0 hW hcnd _
  have hW' := hW
  obtain ⟨p, q, hA, hV, rfl, hfz, hnd⟩ := hW
  obtain ⟨rfl, rfl⟩ := trodVars_none hV
  have hlen : ds.length = 5 := (trod_len hA).trans (by kernel_rfl)
  obtain ⟨d1, d2, d3, d4, d5, rfl⟩ : ∃ d1 d2 d3 d4 d5, ds = [d1, d2, d3, d4, d5] := by
    match ds, hlen with
    | [d1, d2, d3, d4, d5], _ => exact ⟨d1, d2, d3, d4, d5, rfl⟩
  simp only [List.append_nil] at hW'
  refine (law_calls (enc := enc) (fnOk Lt4_ok 21) law_sig law_hu (base := base) (fun j t v h1 h2 => hval0 j t v (by simpa using h1) (by simpa using h2)) hA).mono fun e W' ⟨he, h1, h2, h3, h4⟩ => ?_
  subst he
  exact ⟨_, rfl, post_of_old (pa := p) (pv := []) hW' (fun _ _ _ => trodAll_mk1 (shut_bool Try.underlying4 true)) (fun sp hsp => h4 sp hsp) (fun _ _ => rfl) (by simp) h1 h2 h3
    (ok_one (by kernel_rfl) rfl (okWide_bool_mk Try.underlying4 true))⟩

theorem deskTime_holds : Rows.DeskTimeSaid :=
  OpenClaim.holds_of_wide 4 Try.f4 rfl rfl rfl rfl rfl rfl rfl ⟨rfl, rfl, rfl, rfl, rfl⟩ rfl rfl rfl rfl rfl (by kernel_rfl) Try.func4 (by kernel_rfl)
    (of_decide_eq_true (by kernel_rfl)) (by unfold Func.isWrapper; first | (rw [if_pos (by decide +kernel)]; kernel_rfl) | (rw [if_neg (by decide +kernel)]; exact ⟨rfl, rfl⟩))
    (fun os started H enc _ => law_lifted os started H enc)
end Go.Proofs.Ytkanmigbbpppnaa
#print axioms Go.Proofs.Ytkanmigbbpppnaa.deskTime_holds
