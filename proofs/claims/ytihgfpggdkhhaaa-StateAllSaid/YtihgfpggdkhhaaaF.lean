/- A part of the proof: contracts of functions. -/
import Derived.Test.YtihgfpggdkhhaaaBase
import Derived.Test.YtihgfpggdkhhaaaAbAny
import Derived.Test.YtihgfpggdkhhaaaAbRep
import Derived.Shelf.Strings.Repeat
set_option linter.unusedVariables false
set_option linter.unusedSimpArgs false
set_option maxRecDepth 100000
namespace Go.Proofs.Ytihgfpggdkhhaaa
open Go Go.Ab
noncomputable def PKs0 : PKs := PKs.add (PKs.add (PKs.add (fun _ => none) 71 (clonePK Try.prog 71)) 72 (clonePK Try.prog 72)) 78 repPK
theorem clone71_empty : PrimOk Try.prog 71 primEmpty := primEmpty_of Try.func71 rfl (by kernel_rfl) (by kernel_rfl) (by kernel_rfl) (by kernel_rfl) (by kernel_rfl)
theorem clone72_empty : PrimOk Try.prog 72 primEmpty := primEmpty_of Try.func72 rfl (by kernel_rfl) (by kernel_rfl) (by kernel_rfl) (by kernel_rfl) (by kernel_rfl)
def rep_ren : Go.Shelf.Ren := ⟨fun | 105 => 78 | 212 => 79 | 99 => 80 | 165 => 81 | 166 => 82 | 170 => 83 | 169 => 84 | 263 => 85 | 264 => 86 | 206 => 87 | 240 => 88 | 241 => 89 | 276 => 90 | 277 => 91 | n => n, fun | 9 => 9 | 3 => 3 | 4 => 4 | 20 => 20 | 0 => 0 | 46 => 105 | 109 => 106 | 5 => 5 | 72 => 111 | 76 => 115 | 51 => 118 | 146 => 119 | 53 => 121 | 148 => 122 | 70 => 109 | 37 => 22 | 75 => 114 | 127 => 124 | 164 => 125 | 80 => 34 | n => n, fun | n => n⟩
theorem rep_lays : Go.Proofs.Lays.n105 Try.prog rep_ren where
  mixed := by kernel_rfl
  f99 := Try.func80.trans (congrArg some (by kernel_rfl))
  f105 := Try.func78.trans (congrArg some (by kernel_rfl))
  f165 := Try.func81.trans (congrArg some (by kernel_rfl))
  f166 := Try.func82.trans (congrArg some (by kernel_rfl))
  f169 := Try.func84.trans (congrArg some (by kernel_rfl))
  f170 := Try.func83.trans (congrArg some (by kernel_rfl))
  f206 := Try.func87.trans (congrArg some (by kernel_rfl))
  f212 := Try.func79.trans (congrArg some (by kernel_rfl))
  f240 := Try.func88.trans (congrArg some (by kernel_rfl))
  f241 := Try.func89.trans (congrArg some (by kernel_rfl))
  f263 := Try.func85.trans (congrArg some (by kernel_rfl))
  f264 := Try.func86.trans (congrArg some (by kernel_rfl))
  f276 := Try.func90.trans (congrArg some (by kernel_rfl))
  f277 := Try.func91.trans (congrArg some (by kernel_rfl))
  t0 := Try.underlying0
  a0 := Try.isAgg0
  z0 := Try.sizeOf0
  v0 := Try.zeroValue0
  t3 := Try.underlying3
  a3 := Try.isAgg3
  z3 := Try.sizeOf3
  v3 := Try.zeroValue3
  t4 := Try.underlying4
  a4 := Try.isAgg4
  z4 := Try.sizeOf4
  v4 := Try.zeroValue4
  t5 := Try.underlying5
  a5 := Try.isAgg5
  z5 := Try.sizeOf5
  v5 := Try.zeroValue5
  t9 := Try.underlying9
  a9 := Try.isAgg9
  z9 := Try.sizeOf9
  v9 := Try.zeroValue9
  t20 := Try.underlying20
  a20 := Try.isAgg20
  z20 := Try.sizeOf20
  v20 := Try.zeroValue20
  t37 := Try.underlying22
  a37 := Try.isAgg22
  z37 := Try.sizeOf22
  v37 := Try.zeroValue22
  t46 := Try.underlying105
  a46 := Try.isAgg105
  z46 := Try.sizeOf105
  v46 := Try.zeroValue105
  t51 := Try.underlying118
  a51 := Try.isAgg118
  z51 := Try.sizeOf118
  v51 := Try.zeroValue118
  t53 := Try.underlying121
  a53 := Try.isAgg121
  z53 := Try.sizeOf121
  v53 := Try.zeroValue121
  t70 := Try.underlying109
  a70 := Try.isAgg109
  z70 := Try.sizeOf109
  v70 := Try.zeroValue109
  t72 := Try.underlying111
  a72 := Try.isAgg111
  z72 := Try.sizeOf111
  v72 := Try.zeroValue111
  t75 := Try.underlying114
  a75 := Try.isAgg114
  z75 := Try.sizeOf114
  v75 := Try.zeroValue114
  t76 := Try.underlying115
  a76 := Try.isAgg115
  z76 := Try.sizeOf115
  v76 := Try.zeroValue115
  t109 := Try.underlying106
  a109 := Try.isAgg106
  z109 := Try.sizeOf106
  v109 := Try.zeroValue106
  t127 := Try.underlying124
  a127 := Try.isAgg124
  z127 := Try.sizeOf124
  v127 := Try.zeroValue124
  t146 := Try.underlying119
  a146 := Try.isAgg119
  z146 := Try.sizeOf119
  v146 := Try.zeroValue119
  t148 := Try.underlying122
  a148 := Try.isAgg122
  z148 := Try.sizeOf122
  v148 := Try.zeroValue122
  t164 := Try.underlying125
  a164 := Try.isAgg125
  z164 := Try.sizeOf125
  v164 := Try.zeroValue125
theorem rep_extra : Builder.Extra Try.prog rep_ren where
  sizeBuilder := by kernel_rfl
  liesBuilder := by kernel_rfl
  t5 := Try.underlying5
  a5 := Try.isAgg5
  z5 := Try.sizeOf5
  v5 := Try.zeroValue5
  infoByte := by kernel_rfl
  cellsByte := by kernel_rfl
  sizeByte := by kernel_rfl
  neB5 := by decide
theorem rep_said : RepSaid Try.prog 78 := fun s c w h1 h2 => Any.strings_Repeat (P := Try.prog) (ρ := rep_ren) rep_lays rep_extra s c w h1 h2
theorem rep_prim : PrimOk Try.prog 78 repG := repG_ok Try.func78 rfl (by kernel_rfl) rep_said
theorem PKs0_ok : PKsOk Try.prog PKs0 := (PKsOk.rep (PKsOk.clone (PKsOk.clone PKsOk.none (by kernel_rfl) (by kernel_rfl) clone71_empty) (by kernel_rfl) (by kernel_rfl) clone72_empty) rep_prim)
def LP0 : LPs := fun _ _ => none
abbrev stateForms_id : Nat := 6
abbrev stateForms_sh : Shp := []
abbrev stateForms_fs : List Lf := []
abbrev stateForms_rsh : Shp := [none]
abbrev stateForms_rfs : List Lf := [.fb]
noncomputable def stateForms_r  : Option Ret :=
  some { pan := false, res := AV.bool true, out := [], new := [] }
theorem stateForms_w  : unitQ Try.prog cfg PKs0 LP0 true 6 (groupA stateForms_sh (Tu.mk stateForms_fs ())) [] = stateForms_r  := by kernel_rfl

theorem stateForms_e : evF Try.prog (cfg.with PKs0) 21 6 (groupA stateForms_sh (Tu.mk stateForms_fs ())) [] = some { pan := false, res := .bool true, out := [], new := [] } := by kernel_rfl

end Go.Proofs.Ytihgfpggdkhhaaa
