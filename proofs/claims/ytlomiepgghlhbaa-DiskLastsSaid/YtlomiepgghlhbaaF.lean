/- A part of the proof: contracts of functions. -/
import Derived.Test.YtlomiepgghlhbaaRf
import Derived.Test.YtlomiepgghlhbaaAbAny
import Derived.Test.YtlomiepgghlhbaaAbRep
import Derived.Shelf.Strings.Repeat
set_option linter.unusedVariables false
set_option linter.unusedSimpArgs false
set_option maxRecDepth 100000
namespace Go.Proofs.Ytlomiepgghlhbaa
open Go Go.Ab
noncomputable def PKs0 : PKs := PKs.add (PKs.add (PKs.add (fun _ => none) 37 (clonePK Try.prog 37)) 38 (clonePK Try.prog 38)) 21 repPK
noncomputable def PKr : PKs := PKs0.add 14 readPK
theorem clone37_empty : PrimOk Try.prog 37 primEmpty := primEmpty_of Try.func37 rfl (by kernel_rfl) (by kernel_rfl) (by kernel_rfl) (by kernel_rfl) (by kernel_rfl)
theorem clone38_empty : PrimOk Try.prog 38 primEmpty := primEmpty_of Try.func38 rfl (by kernel_rfl) (by kernel_rfl) (by kernel_rfl) (by kernel_rfl) (by kernel_rfl)
def rep_ren : Go.Shelf.Ren := ⟨fun | 105 => 21 | 212 => 31 | 99 => 32 | 165 => 33 | 166 => 34 | 170 => 35 | 169 => 36 | 263 => 40 | 264 => 41 | 206 => 42 | 240 => 43 | 241 => 44 | 276 => 45 | 277 => 46 | n => n, fun | 9 => 9 | 3 => 3 | 4 => 4 | 20 => 20 | 0 => 0 | 46 => 63 | 109 => 64 | 5 => 5 | 72 => 69 | 76 => 73 | 51 => 79 | 146 => 80 | 53 => 82 | 148 => 83 | 70 => 67 | 37 => 43 | 75 => 72 | 127 => 85 | 164 => 86 | 80 => 48 | n => n, fun | n => n⟩
theorem rep_lays : Go.Proofs.Lays.n105 Try.prog rep_ren where
  mixed := by kernel_rfl
  f99 := Try.func32.trans (congrArg some (by kernel_rfl))
  f105 := Try.func21.trans (congrArg some (by kernel_rfl))
  f165 := Try.func33.trans (congrArg some (by kernel_rfl))
  f166 := Try.func34.trans (congrArg some (by kernel_rfl))
  f169 := Try.func36.trans (congrArg some (by kernel_rfl))
  f170 := Try.func35.trans (congrArg some (by kernel_rfl))
  f206 := Try.func42.trans (congrArg some (by kernel_rfl))
  f212 := Try.func31.trans (congrArg some (by kernel_rfl))
  f240 := Try.func43.trans (congrArg some (by kernel_rfl))
  f241 := Try.func44.trans (congrArg some (by kernel_rfl))
  f263 := Try.func40.trans (congrArg some (by kernel_rfl))
  f264 := Try.func41.trans (congrArg some (by kernel_rfl))
  f276 := Try.func45.trans (congrArg some (by kernel_rfl))
  f277 := Try.func46.trans (congrArg some (by kernel_rfl))
  t0 := Try.underlying0
  a0 := Try.isAgg0
  z0 := Try.sizeOf0
  v0 := Try.zeroValue0
  t3 := Try.underlying3
  a3 := Try.isAgg3
  z3 := Try.sizeOf3
  v3 := Try.zeroValue3
  t4 := Try.underlying4
  a4 := Try.isAgg4
  z4 := Try.sizeOf4
  v4 := Try.zeroValue4
  t5 := Try.underlying5
  a5 := Try.isAgg5
  z5 := Try.sizeOf5
  v5 := Try.zeroValue5
  t9 := Try.underlying9
  a9 := Try.isAgg9
  z9 := Try.sizeOf9
  v9 := Try.zeroValue9
  t20 := Try.underlying20
  a20 := Try.isAgg20
  z20 := Try.sizeOf20
  v20 := Try.zeroValue20
  t37 := Try.underlying43
  a37 := Try.isAgg43
  z37 := Try.sizeOf43
  v37 := Try.zeroValue43
  t46 := Try.underlying63
  a46 := Try.isAgg63
  z46 := Try.sizeOf63
  v46 := Try.zeroValue63
  t51 := Try.underlying79
  a51 := Try.isAgg79
  z51 := Try.sizeOf79
  v51 := Try.zeroValue79
  t53 := Try.underlying82
  a53 := Try.isAgg82
  z53 := Try.sizeOf82
  v53 := Try.zeroValue82
  t70 := Try.underlying67
  a70 := Try.isAgg67
  z70 := Try.sizeOf67
  v70 := Try.zeroValue67
  t72 := Try.underlying69
  a72 := Try.isAgg69
  z72 := Try.sizeOf69
  v72 := Try.zeroValue69
  t75 := Try.underlying72
  a75 := Try.isAgg72
  z75 := Try.sizeOf72
  v75 := Try.zeroValue72
  t76 := Try.underlying73
  a76 := Try.isAgg73
  z76 := Try.sizeOf73
  v76 := Try.zeroValue73
  t109 := Try.underlying64
  a109 := Try.isAgg64
  z109 := Try.sizeOf64
  v109 := Try.zeroValue64
  t127 := Try.underlying85
  a127 := Try.isAgg85
  z127 := Try.sizeOf85
  v127 := Try.zeroValue85
  t146 := Try.underlying80
  a146 := Try.isAgg80
  z146 := Try.sizeOf80
  v146 := Try.zeroValue80
  t148 := Try.underlying83
  a148 := Try.isAgg83
  z148 := Try.sizeOf83
  v148 := Try.zeroValue83
  t164 := Try.underlying86
  a164 := Try.isAgg86
  z164 := Try.sizeOf86
  v164 := Try.zeroValue86
theorem rep_extra : Builder.Extra Try.prog rep_ren where
  sizeBuilder := by kernel_rfl
  liesBuilder := by kernel_rfl
  t5 := Try.underlying5
  a5 := Try.isAgg5
  z5 := Try.sizeOf5
  v5 := Try.zeroValue5
  infoByte := by kernel_rfl
  cellsByte := by kernel_rfl
  sizeByte := by kernel_rfl
  neB5 := by decide
theorem rep_said : RepSaid Try.prog 21 := fun s c w h1 h2 => Any.strings_Repeat (P := Try.prog) (ρ := rep_ren) rep_lays rep_extra s c w h1 h2
theorem rep_prim : PrimOk Try.prog 21 repG := repG_ok Try.func21 rfl (by kernel_rfl) rep_said
theorem PKs0_ok : PKsOk Try.prog PKs0 := (PKsOk.rep (PKsOk.clone (PKsOk.clone PKsOk.none (by kernel_rfl) (by kernel_rfl) clone37_empty) (by kernel_rfl) (by kernel_rfl) clone38_empty) rep_prim)
def LP0 : LPs := fun _ _ => none
theorem PKr_ok : PKsOk Try.prog PKr := PKsOk.read PKs0_ok
theorem begun_e : evF Try.prog (cfg.with PKr) 21 7 [] [] = some { pan := false, res := .bool true, out := [], new := [] } := by kernel_rfl
abbrev diskForms_id : Nat := 5
abbrev diskForms_sh : Shp := []
abbrev diskForms_fs : List Lf := []
abbrev diskForms_rsh : Shp := [none]
abbrev diskForms_rfs : List Lf := [.fb]
noncomputable def diskForms_r  : Option Ret :=
  some { pan := false, res := AV.bool true, out := [], new := [] }
theorem diskForms_w  : unitQ Try.prog cfg PKr LP0 true 5 (groupA diskForms_sh (Tu.mk diskForms_fs ())) [] = diskForms_r  := by kernel_rfl

theorem diskForms_e : evF Try.prog (cfg.with PKr) 21 5 (groupA diskForms_sh (Tu.mk diskForms_fs ())) [] = some { pan := false, res := .bool true, out := [], new := [] } := by kernel_rfl

end Go.Proofs.Ytlomiepgghlhbaa
