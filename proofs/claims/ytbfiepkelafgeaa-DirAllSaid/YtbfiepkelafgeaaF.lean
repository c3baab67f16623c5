/- A part of the proof: contracts of functions. -/
import Derived.Test.YtbfiepkelafgeaaBase
import Derived.Test.YtbfiepkelafgeaaAbCl

set_option linter.unusedVariables false
set_option linter.unusedSimpArgs false
set_option maxRecDepth 100000
namespace Go.Proofs.Ytbfiepkelafgeaa
open Go Go.Ab
noncomputable def PKs0 : PKs := fun _ => none
theorem PKs0_ok : PKsOk Try.prog PKs0 := PKsOk.none
def LP0 : LPs := fun _ _ => none
abbrev dirForms_id : Nat := 4
abbrev dirForms_sh : Shp := []
abbrev dirForms_fs : List Lf := []
abbrev dirForms_rsh : Shp := [none]
abbrev dirForms_rfs : List Lf := [.fb]
noncomputable def dirForms_r  : Option Ret :=
  some { pan := false, res := AV.bool true, out := [], new := [] }
theorem dirForms_w  : unitQ Try.prog cfg PKs0 LP0 true 4 (groupA dirForms_sh (Tu.mk dirForms_fs ())) [] = dirForms_r  := by kernel_rfl

theorem dirForms_yes (h : Tu.wf dirForms_fs ()) : Yes dirForms_r := yes_leaf

end Go.Proofs.Ytbfiepkelafgeaa
