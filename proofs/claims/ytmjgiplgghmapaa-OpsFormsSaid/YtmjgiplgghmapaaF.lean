/- A part of the proof: contracts of functions. -/
import Derived.Test.YtmjgiplgghmapaaBase
import Derived.Test.YtmjgiplgghmapaaAbLp
set_option linter.unusedVariables false
set_option linter.unusedSimpArgs false
set_option maxRecDepth 100000
namespace Go.Proofs.Ytmjgiplgghmapaa
open Go Go.Ab
noncomputable def PKs0 : PKs := PKs.add (fun _ => none) 51 (clonePK Try.prog 51)
theorem clone51_empty : PrimOk Try.prog 51 primEmpty := primEmpty_of Try.func51 rfl (by kernel_rfl) (by kernel_rfl) (by kernel_rfl) (by kernel_rfl) (by kernel_rfl)
theorem PKs0_ok : PKsOk Try.prog PKs0 := (PKsOk.clone PKsOk.none (by kernel_rfl) (by kernel_rfl) clone51_empty)
def LP0 : LPs := fun _ _ => none
abbrev opsForms_id : Nat := 6
abbrev opsForms_sh : Shp := []
abbrev opsForms_fs : List Lf := []
abbrev opsForms_rsh : Shp := [none]
abbrev opsForms_rfs : List Lf := [.fb]
noncomputable def opsForms_r  : Option Ret :=
  some { pan := false, res := AV.bool true, out := [], new := [] }
theorem opsForms_w  : unitQ Try.prog cfg PKs0 LP0 true 6 (groupA opsForms_sh (Tu.mk opsForms_fs ())) [] = opsForms_r  := by kernel_rfl

theorem opsForms_yes (h : Tu.wf opsForms_fs ()) : Yes opsForms_r := yes_leaf

end Go.Proofs.Ytmjgiplgghmapaa
