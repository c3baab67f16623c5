/- A part of the proof: contracts of functions. -/
import Derived.Test.YtfmhhhmmpoophaaBase
import Derived.Test.YtfmhhhmmpoophaaAbLp
set_option linter.unusedVariables false
set_option linter.unusedSimpArgs false
set_option maxRecDepth 100000
namespace Go.Proofs.Ytfmhhhmmpoophaa
open Go Go.Ab
noncomputable def PKs0 : PKs := PKs.add (fun _ => none) 17 (clonePK Try.prog 17)
theorem clone17_empty : PrimOk Try.prog 17 primEmpty := primEmpty_of Try.func17 rfl (by kernel_rfl) (by kernel_rfl) (by kernel_rfl) (by kernel_rfl) (by kernel_rfl)
theorem PKs0_ok : PKsOk Try.prog PKs0 := (PKsOk.clone PKsOk.none (by kernel_rfl) (by kernel_rfl) clone17_empty)
def LP0 : LPs := fun _ _ => none
abbrev bitsForms_id : Nat := 5
abbrev bitsForms_sh : Shp := []
abbrev bitsForms_fs : List Lf := []
abbrev bitsForms_rsh : Shp := [none]
abbrev bitsForms_rfs : List Lf := [.fb]
noncomputable def bitsForms_r  : Option Ret :=
  some { pan := false, res := AV.bool true, out := [], new := [] }
theorem bitsForms_w  : unitQ Try.prog cfg PKs0 LP0 true 5 (groupA bitsForms_sh (Tu.mk bitsForms_fs ())) [] = bitsForms_r  := by kernel_rfl

theorem bitsForms_yes (h : Tu.wf bitsForms_fs ()) : Yes bitsForms_r := yes_leaf

end Go.Proofs.Ytfmhhhmmpoophaa
