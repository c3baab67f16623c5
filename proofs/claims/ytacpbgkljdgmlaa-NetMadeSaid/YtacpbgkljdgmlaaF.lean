/- A part of the proof: contracts of functions. -/
import Derived.Test.YtacpbgkljdgmlaaBase
import Derived.Test.YtacpbgkljdgmlaaAbAny

set_option linter.unusedVariables false
set_option linter.unusedSimpArgs false
set_option maxRecDepth 100000
namespace Go.Proofs.Ytacpbgkljdgmlaa
open Go Go.Ab
noncomputable def PKs0 : PKs := PKs.add (fun _ => none) 19 (clonePK Try.prog 19)
theorem clone19_empty : PrimOk Try.prog 19 primEmpty := primEmpty_of Try.func19 rfl (by kernel_rfl) (by kernel_rfl) (by kernel_rfl) (by kernel_rfl) (by kernel_rfl)
theorem PKs0_ok : PKsOk Try.prog PKs0 := (PKsOk.clone PKsOk.none (by kernel_rfl) (by kernel_rfl) clone19_empty)
def LP0 : LPs := fun _ _ => none
abbrev netForms_id : Nat := 5
abbrev netForms_sh : Shp := []
abbrev netForms_fs : List Lf := []
abbrev netForms_rsh : Shp := [none]
abbrev netForms_rfs : List Lf := [.fb]
noncomputable def netForms_r  : Option Ret :=
  some { pan := false, res := AV.bool true, out := [], new := [] }
theorem netForms_w  : unitQ Try.prog cfg PKs0 LP0 true 5 (groupA netForms_sh (Tu.mk netForms_fs ())) [] = netForms_r  := by kernel_rfl

theorem netForms_e : evF Try.prog (cfg.with PKs0) 21 5 (groupA netForms_sh (Tu.mk netForms_fs ())) [] = some { pan := false, res := .bool true, out := [], new := [] } := by kernel_rfl

end Go.Proofs.Ytacpbgkljdgmlaa
