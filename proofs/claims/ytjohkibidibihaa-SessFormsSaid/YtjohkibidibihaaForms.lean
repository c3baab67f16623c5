/- SessForms: it answers true. It holds with no condition. -/
import Derived.Test.YtjohkibidibihaaRows
import Derived.Test.YtjohkibidibihaaChecked
import Derived.Test.YtjohkibidibihaaAbRowK
namespace Go.Proofs.Ytjohkibidibihaa
open Go.ChangeShapes Go.WideShapes Go.ChangeAt Go.RowKit Go.Ab

theorem Try.own : ownKnob Try.prog.godebug = none := by kernel_rfl

def dyn5 (f id : Nat) : List (Nat × Nat) := if f = 5 ∧ id = 9 then [(5, 20), (6, 20), (9, 20), (10, 20), (13, 20), (14, 20), (16, 20)] else []
def cfg5 : Cfg := { isF := fun f => decide (f ∈ [5, 7, 8, 9, 10, 11, 12, 13, 14, 15, 16, 17, 18, 19]), keep := fun _ _ => none, dyn := dyn5, byref := fun _ => false, thaw := fun _ => false, prim := fun _ => none }
theorem tests5 : [5, 7, 8, 9, 10, 11, 12, 13, 14, 15, 16, 17, 18, 19].all (fnOkB Try.prog cfg5) = true := by kernel_rfl
theorem evOk5 (k : Nat) : FnOk Try.prog (evF Try.prog cfg5 k) :=
  ev_sound (cfg_ok (by kernel_rfl) (l := [5, 7, 8, 9, 10, 11, 12, 13, 14, 15, 16, 17, 18, 19]) (fun f h => by simpa [cfg5] using h) tests5 (fun f g h => by simp [cfg5] at h)) k
theorem run5 : isTrue (evF Try.prog cfg5 10 5 [] []) = true := by kernel_rfl

theorem calls5 (W : World) : Calls Try.prog 5 #[] W fun e W' => e = .returned (.bool true) ∧ W'.os = W.os ∧ W'.output = W.output ∧ ∀ i, i < W.heap.size → W'.heap[i]? = W.heap[i]? :=
  let ⟨_, h1, h2⟩ := isTrue_spec run5
  calls_closed (evOk5 10) h1 h2 W

set_option maxRecDepth 100000 in
theorem forms_lifted (os : Os) (started : os.Started) (H : Type) (enc : TypeId × Value → H) :
    ReturnsInHanded {} Try.checked os 5 .any (Rows.sessFormsSpec.pre6 enc Try.prog Try.f5 Rows.sessFormsRow.domain false) (Rows.sessFormsSpec.post enc Try.prog Try.f5 false true false false) := by
  refine returnsInHanded_of_change (C := Try.checked) Try.own started (by kernel_rfl) Try.func5
    (ChangeSpec.witness6 (enc := enc) (C := Try.checked) false ⟨#[], #[], []⟩ 8 (by kernel_rfl) (by kernel_rfl) (by kernel_rfl) (by kernel_rfl)) ?_
  intro W base args ds gs before hval0 hW hcnd _
  have hW' := hW
  obtain ⟨p, q, hA0, hV, rfl, hfz, hnd⟩ := hW
  have hA : DataW.TrodAll enc Try.prog W 0 (fun _ => true) true Try.f5.params.toList args.toList ds p := hA0
  rw [Try.params5] at hA
  obtain ⟨e1, rfl, rfl⟩ := trodAll_nil hA
  have e2 : args = #[] := by simpa using e1
  subst e2
  obtain ⟨rfl, rfl⟩ := trodVars_none hV
  clear hA0 hval0
  simp only [List.append_nil] at hW'
  refine (calls5 W).mono fun e W' ⟨he, h1, h2, h3⟩ => ?_
  subst he
  exact ⟨_, rfl, post_of_old (pa := []) (pv := []) hW' (fun _ _ _ => trodAll_mk1 (shut_bool Try.underlying4 true)) (fun sp _ => rfl) (fun _ _ => rfl) rfl h1 h2 h3
    (ok_one (by kernel_rfl) rfl (okWide_bool_mk Try.underlying4 true))⟩

theorem sessForms_holds : Rows.SessFormsSaid :=
  OpenClaim.holds_of_wide 5 Try.f5 rfl rfl rfl rfl rfl rfl rfl ⟨rfl, rfl, rfl, rfl, rfl⟩ rfl rfl rfl rfl rfl (by kernel_rfl) Try.func5 (by kernel_rfl)
    (of_decide_eq_true (by kernel_rfl)) (by unfold Func.isWrapper; first | (rw [if_pos (by decide +kernel)]; kernel_rfl) | (rw [if_neg (by decide +kernel)]; exact ⟨rfl, rfl⟩))
    (fun os started H enc _ => forms_lifted os started H enc)
end Go.Proofs.Ytjohkibidibihaa
#print axioms Go.Proofs.Ytjohkibidibihaa.sessForms_holds
