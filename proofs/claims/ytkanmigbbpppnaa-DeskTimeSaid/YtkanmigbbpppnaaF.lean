/- A part of the proof: contracts of functions. -/
import Derived.Test.YtkanmigbbpppnaaBase
import Derived.Test.YtkanmigbbpppnaaAbAny

set_option linter.unusedVariables false
set_option linter.unusedSimpArgs false
set_option maxRecDepth 100000
namespace Go.Proofs.Ytkanmigbbpppnaa
open Go Go.Ab
abbrev mW (l : List Wait_T) : List AV := List.map (mkV true Wait_tfs) l
abbrev i6 (n : Int) : AV := .int .i64 n
abbrev sl (x : Bool) (l : List Wait_T) : AV := .slc x (mW l)
abbrev bx (es : List AV) : Blk := { v := 0, k := .box, fz := false, sz := 0, es := es }
abbrev rw4 (l : List Wait_T) : Blk := { v := 0, k := .row, fz := false, sz := 4, es := mW l }
abbrev m2 (l : List (Int × Int)) : List AV := List.map (mkV true [.fi .i64, .fi .i64]) l
abbrev mi (l : List Int) : List AV := List.map (mkV false [.fi .i64]) l
abbrev LW : Type := Bool × List Wait_T
abbrev rt (r : AV) : Ret := { pan := false, res := r, out := [], new := [] }
abbrev pt (n : Nat) : AV := .ptr n 0 0 0
abbrev sf (fr : List (Nat × AV)) (bs : List (Nat × Blk)) : St := { fr := fr, bs := bs, df := [] }
noncomputable def PKs0 : PKs := PKs.add (PKs.add (fun _ => none) 44 (clonePK Try.prog 44)) 27 (clonePK Try.prog 27)
theorem clone44_empty : PrimOk Try.prog 44 primEmpty := primEmpty_of Try.func44 rfl (by kernel_rfl) (by kernel_rfl) (by kernel_rfl) (by kernel_rfl) (by kernel_rfl)
theorem clone27_empty : PrimOk Try.prog 27 primEmpty := primEmpty_of Try.func27 rfl (by kernel_rfl) (by kernel_rfl) (by kernel_rfl) (by kernel_rfl) (by kernel_rfl)
theorem PKs0_ok : PKsOk Try.prog PKs0 := (PKsOk.clone (PKsOk.clone PKsOk.none (by kernel_rfl) (by kernel_rfl) clone44_empty) (by kernel_rfl) (by kernel_rfl) clone27_empty)
def LP0 : LPs := fun _ _ => none
abbrev deskForms_id : Nat := 6
abbrev deskForms_sh : Shp := []
abbrev deskForms_fs : List Lf := []
abbrev deskForms_rsh : Shp := [none]
abbrev deskForms_rfs : List Lf := [.fb]
noncomputable def deskForms_r  : Option Ret :=
 some (rt (.bool true))
theorem deskForms_w  : unitQ Try.prog cfg PKs0 LP0 true 6 (groupA deskForms_sh (Tu.mk deskForms_fs ())) [] = deskForms_r  := by kernel_rfl

theorem deskForms_e : evF Try.prog (cfg.with PKs0) 21 6 (groupA deskForms_sh (Tu.mk deskForms_fs ())) [] = some { pan := false, res := .bool true, out := [], new := [] } := by kernel_rfl

end Go.Proofs.Ytkanmigbbpppnaa
