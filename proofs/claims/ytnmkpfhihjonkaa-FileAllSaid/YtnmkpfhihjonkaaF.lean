/- A part of the proof: contracts of functions. -/
import Derived.Test.YtnmkpfhihjonkaaBase
import Derived.Test.YtnmkpfhihjonkaaAbCl
import Derived.Test.YtnmkpfhihjonkaaAbRep
import Derived.Shelf.Strings.Repeat
set_option linter.unusedVariables false
set_option linter.unusedSimpArgs false
set_option maxRecDepth 100000
namespace Go.Proofs.Ytnmkpfhihjonkaa
open Go Go.Ab
noncomputable def PKs0 : PKs := PKs.add (fun _ => none) 19 repPK
def rep_ren : Go.Shelf.Ren := ⟨fun | 105 => 19 | 212 => 20 | 99 => 21 | 165 => 22 | 166 => 23 | 170 => 24 | 169 => 25 | 263 => 26 | 264 => 27 | 206 => 28 | 240 => 29 | 241 => 30 | 276 => 31 | 277 => 32 | n => n, fun | 9 => 9 | 3 => 3 | 4 => 4 | 20 => 20 | 0 => 0 | 46 => 46 | 109 => 47 | 5 => 5 | 72 => 52 | 76 => 56 | 51 => 60 | 146 => 61 | 53 => 63 | 148 => 64 | 70 => 50 | 37 => 22 | 75 => 55 | 127 => 66 | 164 => 67 | 80 => 59 | n => n, fun | n => n⟩
theorem rep_lays : Go.Proofs.Lays.n105 Try.prog rep_ren where
  mixed := by kernel_rfl
  f99 := Try.func21.trans (congrArg some (by kernel_rfl))
  f105 := Try.func19.trans (congrArg some (by kernel_rfl))
  f165 := Try.func22.trans (congrArg some (by kernel_rfl))
  f166 := Try.func23.trans (congrArg some (by kernel_rfl))
  f169 := Try.func25.trans (congrArg some (by kernel_rfl))
  f170 := Try.func24.trans (congrArg some (by kernel_rfl))
  f206 := Try.func28.trans (congrArg some (by kernel_rfl))
  f212 := Try.func20.trans (congrArg some (by kernel_rfl))
  f240 := Try.func29.trans (congrArg some (by kernel_rfl))
  f241 := Try.func30.trans (congrArg some (by kernel_rfl))
  f263 := Try.func26.trans (congrArg some (by kernel_rfl))
  f264 := Try.func27.trans (congrArg some (by kernel_rfl))
  f276 := Try.func31.trans (congrArg some (by kernel_rfl))
  f277 := Try.func32.trans (congrArg some (by kernel_rfl))
  t0 := Try.underlying0
  a0 := Try.isAgg0
  z0 := Try.sizeOf0
  v0 := Try.zeroValue0
  t3 := Try.underlying3
  a3 := Try.isAgg3
  z3 := Try.sizeOf3
  v3 := Try.zeroValue3
  t4 := Try.underlying4
  a4 := Try.isAgg4
  z4 := Try.sizeOf4
  v4 := Try.zeroValue4
  t5 := Try.underlying5
  a5 := Try.isAgg5
  z5 := Try.sizeOf5
  v5 := Try.zeroValue5
  t9 := Try.underlying9
  a9 := Try.isAgg9
  z9 := Try.sizeOf9
  v9 := Try.zeroValue9
  t20 := Try.underlying20
  a20 := Try.isAgg20
  z20 := Try.sizeOf20
  v20 := Try.zeroValue20
  t37 := Try.underlying22
  a37 := Try.isAgg22
  z37 := Try.sizeOf22
  v37 := Try.zeroValue22
  t46 := Try.underlying46
  a46 := Try.isAgg46
  z46 := Try.sizeOf46
  v46 := Try.zeroValue46
  t51 := Try.underlying60
  a51 := Try.isAgg60
  z51 := Try.sizeOf60
  v51 := Try.zeroValue60
  t53 := Try.underlying63
  a53 := Try.isAgg63
  z53 := Try.sizeOf63
  v53 := Try.zeroValue63
  t70 := Try.underlying50
  a70 := Try.isAgg50
  z70 := Try.sizeOf50
  v70 := Try.zeroValue50
  t72 := Try.underlying52
  a72 := Try.isAgg52
  z72 := Try.sizeOf52
  v72 := Try.zeroValue52
  t75 := Try.underlying55
  a75 := Try.isAgg55
  z75 := Try.sizeOf55
  v75 := Try.zeroValue55
  t76 := Try.underlying56
  a76 := Try.isAgg56
  z76 := Try.sizeOf56
  v76 := Try.zeroValue56
  t109 := Try.underlying47
  a109 := Try.isAgg47
  z109 := Try.sizeOf47
  v109 := Try.zeroValue47
  t127 := Try.underlying66
  a127 := Try.isAgg66
  z127 := Try.sizeOf66
  v127 := Try.zeroValue66
  t146 := Try.underlying61
  a146 := Try.isAgg61
  z146 := Try.sizeOf61
  v146 := Try.zeroValue61
  t148 := Try.underlying64
  a148 := Try.isAgg64
  z148 := Try.sizeOf64
  v148 := Try.zeroValue64
  t164 := Try.underlying67
  a164 := Try.isAgg67
  z164 := Try.sizeOf67
  v164 := Try.zeroValue67
theorem rep_extra : Builder.Extra Try.prog rep_ren where
  sizeBuilder := by kernel_rfl
  liesBuilder := by kernel_rfl
  t5 := Try.underlying5
  a5 := Try.isAgg5
  z5 := Try.sizeOf5
  v5 := Try.zeroValue5
  infoByte := by kernel_rfl
  cellsByte := by kernel_rfl
  sizeByte := by kernel_rfl
  neB5 := by decide
theorem rep_said : RepSaid Try.prog 19 := fun s c w h1 h2 => Any.strings_Repeat (P := Try.prog) (ρ := rep_ren) rep_lays rep_extra s c w h1 h2
theorem rep_prim : PrimOk Try.prog 19 repG := repG_ok Try.func19 rfl (by kernel_rfl) rep_said
theorem PKs0_ok : PKsOk Try.prog PKs0 := (PKsOk.rep PKsOk.none rep_prim)
def LP0 : LPs := fun _ _ => none
abbrev fileForms_id : Nat := 6
abbrev fileForms_sh : Shp := []
abbrev fileForms_fs : List Lf := []
abbrev fileForms_rsh : Shp := [none]
abbrev fileForms_rfs : List Lf := [.fb]
noncomputable def fileForms_r  : Option Ret :=
  some { pan := false, res := AV.bool true, out := [], new := [] }
theorem fileForms_w  : unitQ Try.prog cfg PKs0 LP0 true 6 (groupA fileForms_sh (Tu.mk fileForms_fs ())) [] = fileForms_r  := by kernel_rfl

theorem fileForms_e : evF Try.prog (cfg.with PKs0) 21 6 (groupA fileForms_sh (Tu.mk fileForms_fs ())) [] = some { pan := false, res := .bool true, out := [], new := [] } := by kernel_rfl

end Go.Proofs.Ytnmkpfhihjonkaa
