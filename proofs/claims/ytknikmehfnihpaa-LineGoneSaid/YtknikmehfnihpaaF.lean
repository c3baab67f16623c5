/- A part of the proof: contracts of functions. -/
import Derived.Test.YtknikmehfnihpaaBase
import Derived.Test.YtknikmehfnihpaaAbAny

set_option linter.unusedVariables false
set_option linter.unusedSimpArgs false
set_option maxRecDepth 100000
namespace Go.Proofs.Ytknikmehfnihpaa
open Go Go.Ab
noncomputable def PKs0 : PKs := PKs.add (fun _ => none) 15 (clonePK Try.prog 15)
theorem clone15_empty : PrimOk Try.prog 15 primEmpty := primEmpty_of Try.func15 rfl (by kernel_rfl) (by kernel_rfl) (by kernel_rfl) (by kernel_rfl) (by kernel_rfl)
theorem PKs0_ok : PKsOk Try.prog PKs0 := (PKsOk.clone PKsOk.none (by kernel_rfl) (by kernel_rfl) clone15_empty)
def LP0 : LPs := fun _ _ => none
abbrev lineForms_id : Nat := 5
abbrev lineForms_sh : Shp := []
abbrev lineForms_fs : List Lf := []
abbrev lineForms_rsh : Shp := [none]
abbrev lineForms_rfs : List Lf := [.fb]
noncomputable def lineForms_r  : Option Ret :=
  some { pan := false, res := AV.bool true, out := [], new := [] }
theorem lineForms_w  : unitQ Try.prog cfg PKs0 LP0 true 5 (groupA lineForms_sh (Tu.mk lineForms_fs ())) [] = lineForms_r  := by kernel_rfl

theorem lineForms_e : evF Try.prog (cfg.with PKs0) 21 5 (groupA lineForms_sh (Tu.mk lineForms_fs ())) [] = some { pan := false, res := .bool true, out := [], new := [] } := by kernel_rfl

end Go.Proofs.Ytknikmehfnihpaa
