/- A part of the proof: contracts of functions. -/
import Derived.Test.YtlhnpfpdjlcakaaBase
import Derived.Test.YtlhnpfpdjlcakaaAbCl
import Derived.Test.YtlhnpfpdjlcakaaAbRep
import Derived.Shelf.Strings.Repeat
set_option linter.unusedVariables false
set_option linter.unusedSimpArgs false
set_option maxRecDepth 100000
namespace Go.Proofs.Ytlhnpfpdjlcakaa
open Go Go.Ab
noncomputable def PKs0 : PKs := PKs.add (PKs.add (fun _ => none) 35 (clonePK Try.prog 35)) 41 repPK
theorem clone35_empty : PrimOk Try.prog 35 primEmpty := primEmpty_of Try.func35 rfl (by kernel_rfl) (by kernel_rfl) (by kernel_rfl) (by kernel_rfl) (by kernel_rfl)
def rep_ren : Go.Shelf.Ren := ⟨fun | 105 => 41 | 212 => 42 | 99 => 43 | 165 => 44 | 166 => 45 | 170 => 46 | 169 => 47 | 263 => 48 | 264 => 49 | 206 => 50 | 240 => 51 | 241 => 52 | 276 => 53 | 277 => 54 | n => n, fun | 9 => 9 | 3 => 3 | 4 => 4 | 20 => 20 | 0 => 0 | 46 => 65 | 109 => 66 | 5 => 5 | 72 => 71 | 76 => 75 | 51 => 79 | 146 => 80 | 53 => 82 | 148 => 83 | 70 => 69 | 37 => 22 | 75 => 74 | 127 => 85 | 164 => 86 | 80 => 78 | n => n, fun | n => n⟩
theorem rep_lays : Go.Proofs.Lays.n105 Try.prog rep_ren where
  mixed := by kernel_rfl
  f99 := Try.func43.trans (congrArg some (by kernel_rfl))
  f105 := Try.func41.trans (congrArg some (by kernel_rfl))
  f165 := Try.func44.trans (congrArg some (by kernel_rfl))
  f166 := Try.func45.trans (congrArg some (by kernel_rfl))
  f169 := Try.func47.trans (congrArg some (by kernel_rfl))
  f170 := Try.func46.trans (congrArg some (by kernel_rfl))
  f206 := Try.func50.trans (congrArg some (by kernel_rfl))
  f212 := Try.func42.trans (congrArg some (by kernel_rfl))
  f240 := Try.func51.trans (congrArg some (by kernel_rfl))
  f241 := Try.func52.trans (congrArg some (by kernel_rfl))
  f263 := Try.func48.trans (congrArg some (by kernel_rfl))
  f264 := Try.func49.trans (congrArg some (by kernel_rfl))
  f276 := Try.func53.trans (congrArg some (by kernel_rfl))
  f277 := Try.func54.trans (congrArg some (by kernel_rfl))
  t0 := Try.underlying0
  a0 := Try.isAgg0
  z0 := Try.sizeOf0
  v0 := Try.zeroValue0
  t3 := Try.underlying3
  a3 := Try.isAgg3
  z3 := Try.sizeOf3
  v3 := Try.zeroValue3
  t4 := Try.underlying4
  a4 := Try.isAgg4
  z4 := Try.sizeOf4
  v4 := Try.zeroValue4
  t5 := Try.underlying5
  a5 := Try.isAgg5
  z5 := Try.sizeOf5
  v5 := Try.zeroValue5
  t9 := Try.underlying9
  a9 := Try.isAgg9
  z9 := Try.sizeOf9
  v9 := Try.zeroValue9
  t20 := Try.underlying20
  a20 := Try.isAgg20
  z20 := Try.sizeOf20
  v20 := Try.zeroValue20
  t37 := Try.underlying22
  a37 := Try.isAgg22
  z37 := Try.sizeOf22
  v37 := Try.zeroValue22
  t46 := Try.underlying65
  a46 := Try.isAgg65
  z46 := Try.sizeOf65
  v46 := Try.zeroValue65
  t51 := Try.underlying79
  a51 := Try.isAgg79
  z51 := Try.sizeOf79
  v51 := Try.zeroValue79
  t53 := Try.underlying82
  a53 := Try.isAgg82
  z53 := Try.sizeOf82
  v53 := Try.zeroValue82
  t70 := Try.underlying69
  a70 := Try.isAgg69
  z70 := Try.sizeOf69
  v70 := Try.zeroValue69
  t72 := Try.underlying71
  a72 := Try.isAgg71
  z72 := Try.sizeOf71
  v72 := Try.zeroValue71
  t75 := Try.underlying74
  a75 := Try.isAgg74
  z75 := Try.sizeOf74
  v75 := Try.zeroValue74
  t76 := Try.underlying75
  a76 := Try.isAgg75
  z76 := Try.sizeOf75
  v76 := Try.zeroValue75
  t109 := Try.underlying66
  a109 := Try.isAgg66
  z109 := Try.sizeOf66
  v109 := Try.zeroValue66
  t127 := Try.underlying85
  a127 := Try.isAgg85
  z127 := Try.sizeOf85
  v127 := Try.zeroValue85
  t146 := Try.underlying80
  a146 := Try.isAgg80
  z146 := Try.sizeOf80
  v146 := Try.zeroValue80
  t148 := Try.underlying83
  a148 := Try.isAgg83
  z148 := Try.sizeOf83
  v148 := Try.zeroValue83
  t164 := Try.underlying86
  a164 := Try.isAgg86
  z164 := Try.sizeOf86
  v164 := Try.zeroValue86
theorem rep_extra : Builder.Extra Try.prog rep_ren where
  sizeBuilder := by kernel_rfl
  liesBuilder := by kernel_rfl
  t5 := Try.underlying5
  a5 := Try.isAgg5
  z5 := Try.sizeOf5
  v5 := Try.zeroValue5
  infoByte := by kernel_rfl
  cellsByte := by kernel_rfl
  sizeByte := by kernel_rfl
  neB5 := by decide
theorem rep_said : RepSaid Try.prog 41 := fun s c w h1 h2 => Any.strings_Repeat (P := Try.prog) (ρ := rep_ren) rep_lays rep_extra s c w h1 h2
theorem rep_prim : PrimOk Try.prog 41 repG := repG_ok Try.func41 rfl (by kernel_rfl) rep_said
theorem PKs0_ok : PKsOk Try.prog PKs0 := (PKsOk.rep (PKsOk.clone PKsOk.none (by kernel_rfl) (by kernel_rfl) clone35_empty) rep_prim)
def LP0 : LPs := fun _ _ => none
abbrev cacheForms_id : Nat := 5
abbrev cacheForms_sh : Shp := []
abbrev cacheForms_fs : List Lf := []
abbrev cacheForms_rsh : Shp := [none]
abbrev cacheForms_rfs : List Lf := [.fb]
noncomputable def cacheForms_r  : Option Ret :=
  some { pan := false, res := AV.bool true, out := [], new := [] }
theorem cacheForms_w  : unitQ Try.prog cfg PKs0 LP0 true 5 (groupA cacheForms_sh (Tu.mk cacheForms_fs ())) [] = cacheForms_r  := by kernel_rfl

theorem cacheForms_e : evF Try.prog (cfg.with PKs0) 21 5 (groupA cacheForms_sh (Tu.mk cacheForms_fs ())) [] = some { pan := false, res := .bool true, out := [], new := [] } := by kernel_rfl

end Go.Proofs.Ytlhnpfpdjlcakaa
