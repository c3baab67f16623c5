/- A part of the proof: contracts of functions. -/
import Derived.Test.YthdmjojanccjfaaBase
import Derived.Test.YthdmjojanccjfaaAbLp
set_option linter.unusedVariables false
set_option linter.unusedSimpArgs false
set_option maxRecDepth 100000
namespace Go.Proofs.Ythdmjojanccjfaa
open Go Go.Ab
noncomputable def PKs0 : PKs := PKs.add (fun _ => none) 14 (clonePK Try.prog 14)
theorem clone_empty : PrimOk Try.prog 14 primEmpty := primEmpty_of (e := 25) Try.func14 rfl (by kernel_rfl) (by kernel_rfl) (by kernel_rfl) (by kernel_rfl) (by kernel_rfl)
theorem PKs0_ok : PKsOk Try.prog PKs0 := PKsOk.none.clone (by kernel_rfl) (by kernel_rfl) clone_empty
def LP0 : LPs := fun _ _ => none
abbrev markForms_id : Nat := 5
abbrev markForms_sh : Shp := []
abbrev markForms_fs : List Lf := []
abbrev markForms_rsh : Shp := [none]
abbrev markForms_rfs : List Lf := [.fb]
noncomputable def markForms_r  : Option Ret :=
  some { pan := false, res := AV.bool true, out := [], new := [] }
theorem markForms_w  : unitQ Try.prog cfg PKs0 LP0 true 5 (groupA markForms_sh (Tu.mk markForms_fs ())) [] = markForms_r  := by kernel_rfl

theorem markForms_yes (h : Tu.wf markForms_fs ()) : Yes markForms_r := yes_leaf

end Go.Proofs.Ythdmjojanccjfaa
