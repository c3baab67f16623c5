/- OpsOne: it answers true, whatever its arguments are, and they read as they did. It holds with no condition. -/
import Derived.Test.YtmjgiplgghmapaaRows
import Derived.Test.YtmjgiplgghmapaaChecked
import Derived.Test.YtmjgiplgghmapaaY
set_option linter.unusedVariables false
set_option maxRecDepth 100000
namespace Go.Proofs.Ytmjgiplgghmapaa
open Go.ChangeShapes Go.WideShapes Go.ChangeAt Go.RowKit Go.Ab

theorem Try.own : ownKnob Try.prog.godebug = none := by kernel_rfl
theorem law_sig : sigF Try.prog Try.f7.params.toList = some (opsOne_sh, opsOne_fs) := by kernel_rfl
theorem law_hu : ∀ d : Tu opsOne_fs, Tu.wf opsOne_fs d → ∃ r, evF Try.prog (cfg.with Lw5) 21 7 (groupA opsOne_sh (Tu.mk opsOne_fs d)) [] = some r ∧ r.pan = false ∧ r.res = .bool true
  | (kind, r, f, off, i, to_, s, g0, g1, g2, g3, n), h => yes_law (lp := opP) rfl opP_ok.loops (by rw [opsOne_w]; exact opsOne_yes kind r f off i to_ s g0 g1 g2 g3 n h)

theorem law_lifted (os : Os) (started : os.Started) (H : Type) (enc : TypeId × Value → H) :
    ReturnsInHanded {} Try.checked os 7 .any (Rows.opsOneSpec.pre6 enc Try.prog Try.f7 Rows.opsOneRow.domain false) (Rows.opsOneSpec.post enc Try.prog Try.f7 false true false false) := by
  refine returnsInHanded_of_change (C := Try.checked) Try.own started (by kernel_rfl) Try.func7
    (ChangeSpec.witness6 (enc := enc) (C := Try.checked) false ⟨#[], #[.int .u8 0, .int .u8 0, .int .u8 0, .int .u8 0, .int .u8 0, .int .u16 0, .string ⟨#[]⟩, .agg #[.int .u16 0, .int .u16 0, .int .u16 0, .int .u16 0], .int .u8 0], []⟩ 8 (by kernel_rfl) (by kernel_rfl) (by kernel_rfl) (by kernel_rfl)) ?_
  intro W base args ds gs before hval0 hW hcnd _
  have hW' := hW
  obtain ⟨p, q, hA, hV, rfl, hfz, hnd⟩ := hW
  obtain ⟨rfl, rfl⟩ := trodVars_none hV
  have hlen : ds.length = 9 := (trod_len hA).trans (by kernel_rfl)
  obtain ⟨d1, d2, d3, d4, d5, d6, d7, d8, d9, rfl⟩ : ∃ d1 d2 d3 d4 d5 d6 d7 d8 d9, ds = [d1, d2, d3, d4, d5, d6, d7, d8, d9] := by
    match ds, hlen with
    | [d1, d2, d3, d4, d5, d6, d7, d8, d9], _ => exact ⟨d1, d2, d3, d4, d5, d6, d7, d8, d9, rfl⟩
  simp only [List.append_nil] at hW'
  refine (law_calls (enc := enc) (fnOk Lw5_ok 21) law_sig law_hu (base := base) (fun j t v h1 h2 => hval0 j t v (by simpa using h1) (by simpa using h2)) hA).mono fun e W' ⟨he, h1, h2, h3, h4⟩ => ?_
  subst he
  exact ⟨_, rfl, post_of_old (pa := p) (pv := []) hW' (fun _ _ _ => trodAll_mk1 (shut_bool Try.underlying4 true)) (fun sp hsp => h4 sp hsp) (fun _ _ => rfl) (by simp) h1 h2 h3
    (ok_one (by kernel_rfl) rfl (okWide_bool_mk Try.underlying4 true))⟩

theorem opsOne_holds : Rows.OpsOneSaid :=
  OpenClaim.holds_of_wide 7 Try.f7 rfl rfl rfl rfl rfl rfl rfl ⟨rfl, rfl, rfl, rfl, rfl⟩ rfl rfl rfl rfl rfl (by kernel_rfl) Try.func7 (by kernel_rfl)
    (of_decide_eq_true (by kernel_rfl)) (by unfold Func.isWrapper; first | (rw [if_pos (by decide +kernel)]; kernel_rfl) | (rw [if_neg (by decide +kernel)]; exact ⟨rfl, rfl⟩))
    (fun os started H enc _ => law_lifted os started H enc)
end Go.Proofs.Ytmjgiplgghmapaa
#print axioms Go.Proofs.Ytmjgiplgghmapaa.opsOne_holds
