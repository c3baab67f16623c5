/- A part of the proof: contracts of functions. -/
import Derived.Test.YtlhnpfpdjlcakaaB
import Derived.Test.YtlhnpfpdjlcakaaAbCl

set_option linter.unusedVariables false
set_option linter.unusedSimpArgs false
set_option maxRecDepth 100000
namespace Go.Proofs.Ytlhnpfpdjlcakaa
open Go Go.Ab
def delK (pk : PKs) (f : FuncId) : PKs := fun g => if g = f then none else pk g
theorem delK_ok {pk : PKs} {f : FuncId} (h : PKsOk Try.prog pk) : PKsOk Try.prog (delK pk f) := by
  intro g p hg
  unfold delK at hg
  split at hg
  · cases hg
  · exact h g p hg
noncomputable def PKd : PKs := delK (delK PKw9 24) 26
theorem PKd_ok : PKsOk Try.prog PKd := delK_ok (delK_ok PKw9_ok)
abbrev viewC_id : Nat := 13
abbrev viewC_sh : Shp := [some 8]
abbrev viewC_fs : List Lf := [.fi .i64, .fi .i64, .fi .i64, .fs, .fl true Write_tfs, .fi .i64, .fb, .fb]
abbrev viewC_rsh : Shp := [none]
abbrev viewC_rfs : List Lf := [.fs]
noncomputable def viewC_r (c_Mode : Int) (c_Until : Int) (c_Ver : Int) (c_Body : List UInt8) (c_Dirty_x : Bool) (c_Dirty : List Write_T) (c_Sent : Int) (c_Called : Bool) (c_Lost : Bool) : Option Ret :=
  oK (allWS.dec [AV.str c_Body, AV.slc c_Dirty_x (List.map (mkV true Write_tfs) c_Dirty)] []) fun (d0 : List UInt8 × Bool × List (Int × List UInt8)) => some { pan := false, res := AV.str (allF d0.fst d0.snd.snd), out := [], new := [] }
theorem viewC_w (c_Mode : Int) (c_Until : Int) (c_Ver : Int) (c_Body : List UInt8) (c_Dirty_x : Bool) (c_Dirty : List Write_T) (c_Sent : Int) (c_Called : Bool) (c_Lost : Bool) : unitQ Try.prog cfg PKd LP0 false 13 (groupA viewC_sh (Tu.mk viewC_fs (c_Mode, c_Until, c_Ver, c_Body, (c_Dirty_x, c_Dirty), c_Sent, c_Called, c_Lost))) [] = viewC_r c_Mode c_Until c_Ver c_Body c_Dirty_x c_Dirty c_Sent c_Called c_Lost := by kernel_rfl

abbrev viewR_id : Nat := 14
abbrev viewR_sh : Shp := [some 8]
abbrev viewR_fs : List Lf := [.fi .i64, .fi .i64, .fi .i64, .fs, .fl true Write_tfs, .fi .i64, .fb, .fb]
abbrev viewR_rsh : Shp := [none]
abbrev viewR_rfs : List Lf := [.fs]
noncomputable def viewR_r (c_Mode : Int) (c_Until : Int) (c_Ver : Int) (c_Body : List UInt8) (c_Dirty_x : Bool) (c_Dirty : List Write_T) (c_Sent : Int) (c_Called : Bool) (c_Lost : Bool) : Option Ret :=
  oK (allRS.dec [AV.str c_Body, AV.slc c_Dirty_x (List.map (mkV true Write_tfs) c_Dirty)] []) fun (d0 : List UInt8 × Bool × List (Int × List UInt8)) => some { pan := false, res := AV.str (allF d0.fst d0.snd.snd), out := [], new := [] }
theorem viewR_w (c_Mode : Int) (c_Until : Int) (c_Ver : Int) (c_Body : List UInt8) (c_Dirty_x : Bool) (c_Dirty : List Write_T) (c_Sent : Int) (c_Called : Bool) (c_Lost : Bool) : unitQ Try.prog cfg PKd LP0 false 14 (groupA viewR_sh (Tu.mk viewR_fs (c_Mode, c_Until, c_Ver, c_Body, (c_Dirty_x, c_Dirty), c_Sent, c_Called, c_Lost))) [] = viewR_r c_Mode c_Until c_Ver c_Body c_Dirty_x c_Dirty c_Sent c_Called c_Lost := by kernel_rfl

abbrev resetC_id : Nat := 15
abbrev resetC_sh : Shp := [some 8]
abbrev resetC_fs : List Lf := [.fi .i64, .fi .i64, .fi .i64, .fs, .fl true Write_tfs, .fi .i64, .fb, .fb]
abbrev resetC_rsh : Shp := [some 8]
abbrev resetC_rfs : List Lf := [.fi .i64, .fi .i64, .fi .i64, .fs, .fl true Write_tfs, .fi .i64, .fb, .fb]
noncomputable def resetC_r (c_Mode : Int) (c_Until : Int) (c_Ver : Int) (c_Body : List UInt8) (c_Dirty_x : Bool) (c_Dirty : List Write_T) (c_Sent : Int) (c_Called : Bool) (c_Lost : Bool) : Option Ret :=
  bK c_Lost (some { pan := false, res := AV.agg [AV.int IntKind.i64 0, AV.int IntKind.i64 0, AV.int IntKind.i64 0, AV.str [], AV.slc true [], AV.int IntKind.i64 0, AV.bool false, AV.bool true], out := [], new := [] }) (some { pan := false, res := AV.agg [AV.int IntKind.i64 0, AV.int IntKind.i64 0, AV.int IntKind.i64 0, AV.str [], AV.slc true [], AV.int IntKind.i64 0, AV.bool false, AV.bool (decide (0 < (↑(List.map (mkV true Write_tfs) c_Dirty).length : Int)))], out := [], new := [] })
theorem resetC_w (c_Mode : Int) (c_Until : Int) (c_Ver : Int) (c_Body : List UInt8) (c_Dirty_x : Bool) (c_Dirty : List Write_T) (c_Sent : Int) (c_Called : Bool) (c_Lost : Bool) : unitQ Try.prog cfg PKd LP0 false 15 (groupA resetC_sh (Tu.mk resetC_fs (c_Mode, c_Until, c_Ver, c_Body, (c_Dirty_x, c_Dirty), c_Sent, c_Called, c_Lost))) [] = resetC_r c_Mode c_Until c_Ver c_Body c_Dirty_x c_Dirty c_Sent c_Called c_Lost := by kernel_rfl

abbrev resetR_id : Nat := 16
abbrev resetR_sh : Shp := [some 8]
abbrev resetR_fs : List Lf := [.fi .i64, .fi .i64, .fi .i64, .fs, .fl true Write_tfs, .fi .i64, .fb, .fb]
abbrev resetR_rsh : Shp := [some 8]
abbrev resetR_rfs : List Lf := [.fi .i64, .fi .i64, .fi .i64, .fs, .fl true Write_tfs, .fi .i64, .fb, .fb]
noncomputable def resetR_r (c_Mode : Int) (c_Until : Int) (c_Ver : Int) (c_Body : List UInt8) (c_Dirty_x : Bool) (c_Dirty : List Write_T) (c_Sent : Int) (c_Called : Bool) (c_Lost : Bool) : Option Ret :=
  bK c_Lost (some { pan := false, res := AV.agg [AV.int IntKind.i64 0, AV.int IntKind.i64 0, AV.int IntKind.i64 0, AV.str [], AV.slc true [], AV.int IntKind.i64 0, AV.bool false, AV.bool true], out := [], new := [] }) (some { pan := false, res := AV.agg [AV.int IntKind.i64 0, AV.int IntKind.i64 0, AV.int IntKind.i64 0, AV.str [], AV.slc true [], AV.int IntKind.i64 0, AV.bool false, AV.bool (decide (0 < (↑(List.map (mkV true Write_tfs) c_Dirty).length : Int)))], out := [], new := [] })
theorem resetR_w (c_Mode : Int) (c_Until : Int) (c_Ver : Int) (c_Body : List UInt8) (c_Dirty_x : Bool) (c_Dirty : List Write_T) (c_Sent : Int) (c_Called : Bool) (c_Lost : Bool) : unitQ Try.prog cfg PKd LP0 false 16 (groupA resetR_sh (Tu.mk resetR_fs (c_Mode, c_Until, c_Ver, c_Body, (c_Dirty_x, c_Dirty), c_Sent, c_Called, c_Lost))) [] = resetR_r c_Mode c_Until c_Ver c_Body c_Dirty_x c_Dirty c_Sent c_Called c_Lost := by kernel_rfl

abbrev lapseR_id : Nat := 22
abbrev lapseR_sh : Shp := [some 8, none]
abbrev lapseR_fs : List Lf := [.fi .i64, .fi .i64, .fi .i64, .fs, .fl true Write_tfs, .fi .i64, .fb, .fb, .fi .i64]
abbrev lapseR_rsh : Shp := [some 8]
abbrev lapseR_rfs : List Lf := [.fi .i64, .fi .i64, .fi .i64, .fs, .fl true Write_tfs, .fi .i64, .fb, .fb]
noncomputable def lapseR_r (c_Mode : Int) (c_Until : Int) (c_Ver : Int) (c_Body : List UInt8) (c_Dirty_x : Bool) (c_Dirty : List Write_T) (c_Sent : Int) (c_Called : Bool) (c_Lost : Bool) (now : Int) : Option Ret :=
  bK (decide (c_Mode = 0)) (some { pan := false, res := AV.agg [AV.int IntKind.i64 c_Mode, AV.int IntKind.i64 c_Until, AV.int IntKind.i64 c_Ver, AV.str c_Body, AV.slc c_Dirty_x (List.map (mkV true Write_tfs) c_Dirty), AV.int IntKind.i64 c_Sent, AV.bool c_Called, AV.bool c_Lost], out := [], new := [] })
  (bK (decide (now < c_Until)) (bK (!decide (c_Mode = 0)) (some { pan := false, res := AV.agg [AV.int IntKind.i64 c_Mode, AV.int IntKind.i64 c_Until, AV.int IntKind.i64 c_Ver, AV.str c_Body, AV.slc c_Dirty_x (List.map (mkV true Write_tfs) c_Dirty), AV.int IntKind.i64 c_Sent, AV.bool c_Called, AV.bool c_Lost], out := [], new := [] }) (bK c_Lost (some { pan := false, res := AV.agg [AV.int IntKind.i64 0, AV.int IntKind.i64 0, AV.int IntKind.i64 0, AV.str [], AV.slc true [], AV.int IntKind.i64 0, AV.bool false, AV.bool true], out := [], new := [] }) (some { pan := false, res := AV.agg [AV.int IntKind.i64 0, AV.int IntKind.i64 0, AV.int IntKind.i64 0, AV.str [], AV.slc true [], AV.int IntKind.i64 0, AV.bool false, AV.bool (decide (0 < (↑(List.map (mkV true Write_tfs) c_Dirty).length : Int)))], out := [], new := [] }))) (bK c_Lost (some { pan := false, res := AV.agg [AV.int IntKind.i64 0, AV.int IntKind.i64 0, AV.int IntKind.i64 0, AV.str [], AV.slc true [], AV.int IntKind.i64 0, AV.bool false, AV.bool true], out := [], new := [] }) (some { pan := false, res := AV.agg [AV.int IntKind.i64 0, AV.int IntKind.i64 0, AV.int IntKind.i64 0, AV.str [], AV.slc true [], AV.int IntKind.i64 0, AV.bool false, AV.bool (decide (0 < (↑(List.map (mkV true Write_tfs) c_Dirty).length : Int)))], out := [], new := [] })))
theorem lapseR_w (c_Mode : Int) (c_Until : Int) (c_Ver : Int) (c_Body : List UInt8) (c_Dirty_x : Bool) (c_Dirty : List Write_T) (c_Sent : Int) (c_Called : Bool) (c_Lost : Bool) (now : Int) : unitQ Try.prog cfg PKd LP0 false 22 (groupA lapseR_sh (Tu.mk lapseR_fs (c_Mode, c_Until, c_Ver, c_Body, (c_Dirty_x, c_Dirty), c_Sent, c_Called, c_Lost, now))) [] = lapseR_r c_Mode c_Until c_Ver c_Body c_Dirty_x c_Dirty c_Sent c_Called c_Lost now := by kernel_rfl

abbrev validX_id : Nat := 20
abbrev validX_sh : Shp := [some 8, none]
abbrev validX_fs : List Lf := [.fi .i64, .fi .i64, .fi .i64, .fs, .fl true Write_tfs, .fi .i64, .fb, .fb, .fi .i64]
abbrev validX_rsh : Shp := [none]
abbrev validX_rfs : List Lf := [.fi .i64]
noncomputable def validX_r (c_Mode : Int) (c_Until : Int) (c_Ver : Int) (c_Body : List UInt8) (c_Dirty_x : Bool) (c_Dirty : List Write_T) (c_Sent : Int) (c_Called : Bool) (c_Lost : Bool) (now : Int) : Option Ret :=
  bK (decide (now < c_Until)) (some { pan := false, res := AV.int IntKind.i64 c_Mode, out := [], new := [] }) (some { pan := false, res := AV.int IntKind.i64 0, out := [], new := [] })
theorem validX_w (c_Mode : Int) (c_Until : Int) (c_Ver : Int) (c_Body : List UInt8) (c_Dirty_x : Bool) (c_Dirty : List Write_T) (c_Sent : Int) (c_Called : Bool) (c_Lost : Bool) (now : Int) : unitQ Try.prog cfg PKd LP0 false 20 (groupA validX_sh (Tu.mk validX_fs (c_Mode, c_Until, c_Ver, c_Body, (c_Dirty_x, c_Dirty), c_Sent, c_Called, c_Lost, now))) [] = validX_r c_Mode c_Until c_Ver c_Body c_Dirty_x c_Dirty c_Sent c_Called c_Lost now := by kernel_rfl

abbrev letC_id : Nat := 25
abbrev letC_sh : Shp := [some 8, none, none, none, none]
abbrev letC_fs : List Lf := [.fi .i64, .fi .i64, .fi .i64, .fs, .fl true Write_tfs, .fi .i64, .fb, .fb, .fi .i64, .fi .i64, .fi .i64, .fs]
abbrev letC_rsh : Shp := [some 8]
abbrev letC_rfs : List Lf := [.fi .i64, .fi .i64, .fi .i64, .fs, .fl true Write_tfs, .fi .i64, .fb, .fb]
noncomputable def letC_r (c_Mode : Int) (c_Until : Int) (c_Ver : Int) (c_Body : List UInt8) (c_Dirty_x : Bool) (c_Dirty : List Write_T) (c_Sent : Int) (c_Called : Bool) (c_Lost : Bool) (mode : Int) (until_ : Int) (ver : Int) (body : List UInt8) : Option Ret :=
  oK (cloneS.dec [AV.slc c_Dirty_x (List.map (mkV true Write_tfs) c_Dirty)] []) fun (d0 : Bool × List (Int × List UInt8)) => bK (List.map (mkV true Write_tfs) (cloneF d0).snd).isEmpty (some { pan := false, res := AV.agg [AV.int IntKind.i64 mode, AV.int IntKind.i64 until_, AV.int IntKind.i64 ver, AV.str body, AV.slc true [], AV.int IntKind.i64 c_Sent, AV.bool false, AV.bool c_Lost], out := [], new := [] }) (bK (decide (0 + (List.map (mkV true Write_tfs) (cloneF d0).snd).length ≤ (List.map (mkV true Write_tfs) (cloneF d0).snd).length)) (some { pan := false, res := AV.agg [AV.int IntKind.i64 mode, AV.int IntKind.i64 until_, AV.int IntKind.i64 ver, AV.str body, AV.slc false (List.take (List.map (mkV true Write_tfs) (cloneF d0).snd).length (List.drop 0 (List.map (mkV true Write_tfs) (cloneF d0).snd))), AV.int IntKind.i64 c_Sent, AV.bool false, AV.bool c_Lost], out := [], new := [] }) none)
theorem letC_w (c_Mode : Int) (c_Until : Int) (c_Ver : Int) (c_Body : List UInt8) (c_Dirty_x : Bool) (c_Dirty : List Write_T) (c_Sent : Int) (c_Called : Bool) (c_Lost : Bool) (mode : Int) (until_ : Int) (ver : Int) (body : List UInt8) : unitQ Try.prog cfg PKd LP0 false 25 (groupA letC_sh (Tu.mk letC_fs (c_Mode, c_Until, c_Ver, c_Body, (c_Dirty_x, c_Dirty), c_Sent, c_Called, c_Lost, mode, until_, ver, body))) [] = letC_r c_Mode c_Until c_Ver c_Body c_Dirty_x c_Dirty c_Sent c_Called c_Lost mode until_ ver body := by kernel_rfl

abbrev letX_id : Nat := 26
abbrev letX_sh : Shp := [some 8, none, none, none, none]
abbrev letX_fs : List Lf := [.fi .i64, .fi .i64, .fi .i64, .fs, .fl true Write_tfs, .fi .i64, .fb, .fb, .fi .i64, .fi .i64, .fi .i64, .fs]
abbrev letX_rsh : Shp := [some 8]
abbrev letX_rfs : List Lf := [.fi .i64, .fi .i64, .fi .i64, .fs, .fl true Write_tfs, .fi .i64, .fb, .fb]
noncomputable def letX_r (c_Mode : Int) (c_Until : Int) (c_Ver : Int) (c_Body : List UInt8) (c_Dirty_x : Bool) (c_Dirty : List Write_T) (c_Sent : Int) (c_Called : Bool) (c_Lost : Bool) (mode : Int) (until_ : Int) (ver : Int) (body : List UInt8) : Option Ret :=
  some { pan := false, res := AV.agg [AV.int IntKind.i64 mode, AV.int IntKind.i64 until_, AV.int IntKind.i64 ver, AV.str body, AV.slc c_Dirty_x (List.map (mkV true Write_tfs) c_Dirty), AV.int IntKind.i64 c_Sent, AV.bool false, AV.bool c_Lost], out := [], new := [] }
theorem letX_w (c_Mode : Int) (c_Until : Int) (c_Ver : Int) (c_Body : List UInt8) (c_Dirty_x : Bool) (c_Dirty : List Write_T) (c_Sent : Int) (c_Called : Bool) (c_Lost : Bool) (mode : Int) (until_ : Int) (ver : Int) (body : List UInt8) : unitQ Try.prog cfg PKd LP0 false 26 (groupA letX_sh (Tu.mk letX_fs (c_Mode, c_Until, c_Ver, c_Body, (c_Dirty_x, c_Dirty), c_Sent, c_Called, c_Lost, mode, until_, ver, body))) [] = letX_r c_Mode c_Until c_Ver c_Body c_Dirty_x c_Dirty c_Sent c_Called c_Lost mode until_ ver body := by kernel_rfl

abbrev done_id : Nat := 17
abbrev done_sh : Shp := [some 8, none]
abbrev done_fs : List Lf := [.fi .i64, .fi .i64, .fi .i64, .fs, .fl true Write_tfs, .fi .i64, .fb, .fb, .fi .i64]
abbrev done_rsh : Shp := [some 8]
abbrev done_rfs : List Lf := [.fi .i64, .fi .i64, .fi .i64, .fs, .fl true Write_tfs, .fi .i64, .fb, .fb]
noncomputable def done_r (c_Mode : Int) (c_Until : Int) (c_Ver : Int) (c_Body : List UInt8) (c_Dirty_x : Bool) (c_Dirty : List Write_T) (c_Sent : Int) (c_Called : Bool) (c_Lost : Bool) (ver : Int) : Option Ret :=
  oK (cloneS.dec [AV.slc c_Dirty_x (List.map (mkV true Write_tfs) c_Dirty)] []) fun (d0 : Bool × List (Int × List UInt8)) =>
  bK (List.map (mkV true Write_tfs) (cloneF d0).snd).isEmpty
    (bK (!decide (c_Mode = 2)) (some { pan := false, res := AV.agg [AV.int IntKind.i64 c_Mode, AV.int IntKind.i64 c_Until, AV.int IntKind.i64 c_Ver, AV.str c_Body, AV.slc true [], AV.int IntKind.i64 c_Sent, AV.bool c_Called, AV.bool c_Lost], out := [], new := [] })
      (bK (decide (0 ≤ maxI (minI c_Sent 0) 0)) (bK (decide (0 ≤ (maxI (minI c_Sent 0) 0).toNat ∧ (maxI (minI c_Sent 0) 0).toNat ≤ 0)) (oK (allWS.dec [AV.str c_Body, AV.slc (true && decide ((maxI (minI c_Sent 0) 0).toNat = 0)) (List.take ((maxI (minI c_Sent 0) 0).toNat - 0) [])] []) fun (d1 : List UInt8 × Bool × List (Int × List UInt8)) => bK (decide (0 ≤ maxI (minI c_Sent 0) 0)) (bK (decide ((maxI (minI c_Sent 0) 0).toNat ≤ 0 ∧ 0 ≤ 0)) (oK (cloneS.dec [AV.slc true (List.take (0 - (maxI (minI c_Sent 0) 0).toNat) (List.drop (maxI (minI c_Sent 0) 0).toNat []))] []) fun (d2 : Bool × List (Int × List UInt8)) => bK (List.map (mkV true Write_tfs) (cloneF d2).snd).isEmpty (some { pan := false, res := AV.agg [AV.int IntKind.i64 c_Mode, AV.int IntKind.i64 c_Until, AV.int IntKind.i64 ver, AV.str (allF d1.fst d1.snd.snd), AV.slc true [], AV.int IntKind.i64 0, AV.bool c_Called, AV.bool c_Lost], out := [], new := [] }) (bK (decide (0 + (List.map (mkV true Write_tfs) (cloneF d2).snd).length ≤ (List.map (mkV true Write_tfs) (cloneF d2).snd).length)) (some { pan := false, res := AV.agg [AV.int IntKind.i64 c_Mode, AV.int IntKind.i64 c_Until, AV.int IntKind.i64 ver, AV.str (allF d1.fst d1.snd.snd), AV.slc false (List.take (List.map (mkV true Write_tfs) (cloneF d2).snd).length (List.drop 0 (List.map (mkV true Write_tfs) (cloneF d2).snd))), AV.int IntKind.i64 0, AV.bool c_Called, AV.bool c_Lost], out := [], new := [] }) none)) none) none) none) none))
    (bK (!decide (c_Mode = 2)) (bK (decide (0 + (List.map (mkV true Write_tfs) (cloneF d0).snd).length ≤ (List.map (mkV true Write_tfs) (cloneF d0).snd).length)) (some { pan := false, res := AV.agg [AV.int IntKind.i64 c_Mode, AV.int IntKind.i64 c_Until, AV.int IntKind.i64 c_Ver, AV.str c_Body, AV.slc false (List.take (List.map (mkV true Write_tfs) (cloneF d0).snd).length (List.drop 0 (List.map (mkV true Write_tfs) (cloneF d0).snd))), AV.int IntKind.i64 c_Sent, AV.bool c_Called, AV.bool c_Lost], out := [], new := [] }) none)
      (bK (decide (0 + (List.map (mkV true Write_tfs) (cloneF d0).snd).length ≤ (List.map (mkV true Write_tfs) (cloneF d0).snd).length))
        (bK (decide (0 ≤ maxI (minI c_Sent (↑(List.map (mkV true Write_tfs) (cloneF d0).snd).length : Int)) 0))
          (bK (decide (0 ≤ (maxI (minI c_Sent (↑(List.map (mkV true Write_tfs) (cloneF d0).snd).length : Int)) 0).toNat ∧ 0 + (maxI (minI c_Sent (↑(List.map (mkV true Write_tfs) (cloneF d0).snd).length : Int)) 0).toNat ≤ (List.map (mkV true Write_tfs) (cloneF d0).snd).length))
            (bK (decide (0 + ((maxI (minI c_Sent (↑(List.map (mkV true Write_tfs) (cloneF d0).snd).length : Int)) 0).toNat - 0) ≤ (List.map (mkV true Write_tfs) (cloneF d0).snd).length))
              (oK (allWS.dec [AV.str c_Body, AV.slc false (List.take ((maxI (minI c_Sent (↑(List.map (mkV true Write_tfs) (cloneF d0).snd).length : Int)) 0).toNat - 0) (List.drop 0 (List.map (mkV true Write_tfs) (cloneF d0).snd)))] []) fun (d3 : List UInt8 × Bool × List (Int × List UInt8)) =>
                bK (decide (0 ≤ maxI (minI c_Sent (↑(List.map (mkV true Write_tfs) (cloneF d0).snd).length : Int)) 0))
                  (bK (decide ((maxI (minI c_Sent (↑(List.map (mkV true Write_tfs) (cloneF d0).snd).length : Int)) 0).toNat ≤ (List.map (mkV true Write_tfs) (cloneF d0).snd).length ∧ 0 + (List.map (mkV true Write_tfs) (cloneF d0).snd).length ≤ (List.map (mkV true Write_tfs) (cloneF d0).snd).length))
                    (bK (decide ((maxI (minI c_Sent (↑(List.map (mkV true Write_tfs) (cloneF d0).snd).length : Int)) 0).toNat = 0 ∨ 0 + (maxI (minI c_Sent (↑(List.map (mkV true Write_tfs) (cloneF d0).snd).length : Int)) 0).toNat < (List.map (mkV true Write_tfs) (cloneF d0).snd).length))
                      (bK (decide (0 + (maxI (minI c_Sent (↑(List.map (mkV true Write_tfs) (cloneF d0).snd).length : Int)) 0).toNat + ((List.map (mkV true Write_tfs) (cloneF d0).snd).length - (maxI (minI c_Sent (↑(List.map (mkV true Write_tfs) (cloneF d0).snd).length : Int)) 0).toNat) ≤ (List.map (mkV true Write_tfs) (cloneF d0).snd).length))
                        (oK (cloneS.dec [AV.slc false (List.take ((List.map (mkV true Write_tfs) (cloneF d0).snd).length - (maxI (minI c_Sent (↑(List.map (mkV true Write_tfs) (cloneF d0).snd).length : Int)) 0).toNat) (List.drop (0 + (maxI (minI c_Sent (↑(List.map (mkV true Write_tfs) (cloneF d0).snd).length : Int)) 0).toNat) (List.map (mkV true Write_tfs) (cloneF d0).snd)))] []) fun (d4 : Bool × List (Int × List UInt8)) => bK (List.map (mkV true Write_tfs) (cloneF d4).snd).isEmpty (some { pan := false, res := AV.agg [AV.int IntKind.i64 c_Mode, AV.int IntKind.i64 c_Until, AV.int IntKind.i64 ver, AV.str (allF d3.fst d3.snd.snd), AV.slc true [], AV.int IntKind.i64 0, AV.bool c_Called, AV.bool c_Lost], out := [], new := [] }) (bK (decide (0 + (List.map (mkV true Write_tfs) (cloneF d4).snd).length ≤ (List.map (mkV true Write_tfs) (cloneF d4).snd).length)) (some { pan := false, res := AV.agg [AV.int IntKind.i64 c_Mode, AV.int IntKind.i64 c_Until, AV.int IntKind.i64 ver, AV.str (allF d3.fst d3.snd.snd), AV.slc false (List.take (List.map (mkV true Write_tfs) (cloneF d4).snd).length (List.drop 0 (List.map (mkV true Write_tfs) (cloneF d4).snd))), AV.int IntKind.i64 0, AV.bool c_Called, AV.bool c_Lost], out := [], new := [] }) none)) none)
                      (oK (cloneS.dec [AV.slc false []] []) fun (d5 : Bool × List (Int × List UInt8)) => bK (List.map (mkV true Write_tfs) (cloneF d5).snd).isEmpty (some { pan := false, res := AV.agg [AV.int IntKind.i64 c_Mode, AV.int IntKind.i64 c_Until, AV.int IntKind.i64 ver, AV.str (allF d3.fst d3.snd.snd), AV.slc true [], AV.int IntKind.i64 0, AV.bool c_Called, AV.bool c_Lost], out := [], new := [] }) (bK (decide (0 + (List.map (mkV true Write_tfs) (cloneF d5).snd).length ≤ (List.map (mkV true Write_tfs) (cloneF d5).snd).length)) (some { pan := false, res := AV.agg [AV.int IntKind.i64 c_Mode, AV.int IntKind.i64 c_Until, AV.int IntKind.i64 ver, AV.str (allF d3.fst d3.snd.snd), AV.slc false (List.take (List.map (mkV true Write_tfs) (cloneF d5).snd).length (List.drop 0 (List.map (mkV true Write_tfs) (cloneF d5).snd))), AV.int IntKind.i64 0, AV.bool c_Called, AV.bool c_Lost], out := [], new := [] }) none)))
                    none)
                  none)
              none)
            none)
          none)
        none))
theorem done_w (c_Mode : Int) (c_Until : Int) (c_Ver : Int) (c_Body : List UInt8) (c_Dirty_x : Bool) (c_Dirty : List Write_T) (c_Sent : Int) (c_Called : Bool) (c_Lost : Bool) (ver : Int) : unitQ Try.prog cfg PKd LP0 false 17 (groupA done_sh (Tu.mk done_fs (c_Mode, c_Until, c_Ver, c_Body, (c_Dirty_x, c_Dirty), c_Sent, c_Called, c_Lost, ver))) [] = done_r c_Mode c_Until c_Ver c_Body c_Dirty_x c_Dirty c_Sent c_Called c_Lost ver := by kernel_rfl

abbrev doneR_id : Nat := 18
abbrev doneR_sh : Shp := [some 8, none]
abbrev doneR_fs : List Lf := [.fi .i64, .fi .i64, .fi .i64, .fs, .fl true Write_tfs, .fi .i64, .fb, .fb, .fi .i64]
abbrev doneR_rsh : Shp := [some 8]
abbrev doneR_rfs : List Lf := [.fi .i64, .fi .i64, .fi .i64, .fs, .fl true Write_tfs, .fi .i64, .fb, .fb]
noncomputable def doneR_r (c_Mode : Int) (c_Until : Int) (c_Ver : Int) (c_Body : List UInt8) (c_Dirty_x : Bool) (c_Dirty : List Write_T) (c_Sent : Int) (c_Called : Bool) (c_Lost : Bool) (ver : Int) : Option Ret :=
  bK (!decide (c_Mode = 2)) (some { pan := false, res := AV.agg [AV.int IntKind.i64 c_Mode, AV.int IntKind.i64 c_Until, AV.int IntKind.i64 c_Ver, AV.str c_Body, AV.slc c_Dirty_x (List.map (mkV true Write_tfs) c_Dirty), AV.int IntKind.i64 c_Sent, AV.bool c_Called, AV.bool c_Lost], out := [], new := [] })
  (bK ((List.map (mkV true Write_tfs) c_Dirty).all fun (y : AV) => decide (y.cells.length = 2))
    (bK (decide (0 ≤ minI (maxI c_Sent 0) (↑(List.map (mkV true Write_tfs) c_Dirty).length : Int)))
      (bK (decide (0 ≤ (minI (maxI c_Sent 0) (↑(List.map (mkV true Write_tfs) c_Dirty).length : Int)).toNat ∧ (minI (maxI c_Sent 0) (↑(List.map (mkV true Write_tfs) c_Dirty).length : Int)).toNat ≤ (List.map (mkV true Write_tfs) c_Dirty).length))
        (oK (allRS.dec [AV.str c_Body, AV.slc (c_Dirty_x && decide ((minI (maxI c_Sent 0) (↑(List.map (mkV true Write_tfs) c_Dirty).length : Int)).toNat = (List.map (mkV true Write_tfs) c_Dirty).length)) (List.take ((minI (maxI c_Sent 0) (↑(List.map (mkV true Write_tfs) c_Dirty).length : Int)).toNat - 0) (List.drop 0 (List.map (mkV true Write_tfs) c_Dirty)))] []) fun (d0 : List UInt8 × Bool × List (Int × List UInt8)) =>
          bK (decide (0 ≤ minI (maxI c_Sent 0) (↑(List.map (mkV true Write_tfs) c_Dirty).length : Int)))
            (bK ((List.map (mkV true Write_tfs) c_Dirty).all fun (y : AV) => decide (y.cells.length = 2))
              (bK (decide ((minI (maxI c_Sent 0) (↑(List.map (mkV true Write_tfs) c_Dirty).length : Int)).toNat ≤ (List.map (mkV true Write_tfs) c_Dirty).length ∧ (List.map (mkV true Write_tfs) c_Dirty).length ≤ (List.map (mkV true Write_tfs) c_Dirty).length))
                (bK ((List.take ((List.map (mkV true Write_tfs) c_Dirty).length - (minI (maxI c_Sent 0) (↑(List.map (mkV true Write_tfs) c_Dirty).length : Int)).toNat) (List.drop (minI (maxI c_Sent 0) (↑(List.map (mkV true Write_tfs) c_Dirty).length : Int)).toNat (List.map (mkV true Write_tfs) c_Dirty))).all fun (y : AV) => decide (y.cells.length = 2))
                  (bK (List.take ((List.map (mkV true Write_tfs) c_Dirty).length - (minI (maxI c_Sent 0) (↑(List.map (mkV true Write_tfs) c_Dirty).length : Int)).toNat) (List.drop (minI (maxI c_Sent 0) (↑(List.map (mkV true Write_tfs) c_Dirty).length : Int)).toNat (List.map (mkV true Write_tfs) c_Dirty))).isEmpty (some { pan := false, res := AV.agg [AV.int IntKind.i64 c_Mode, AV.int IntKind.i64 c_Until, AV.int IntKind.i64 ver, AV.str (allF d0.fst d0.snd.snd), AV.slc false [], AV.int IntKind.i64 0, AV.bool c_Called, AV.bool c_Lost], out := [], new := [] })
                    (bK (true && bytesFit Try.prog 24 (0 + (List.take ((List.map (mkV true Write_tfs) c_Dirty).length - (minI (maxI c_Sent 0) (↑(List.map (mkV true Write_tfs) c_Dirty).length : Int)).toNat) (List.drop (minI (maxI c_Sent 0) (↑(List.map (mkV true Write_tfs) c_Dirty).length : Int)).toNat (List.map (mkV true Write_tfs) c_Dirty))).length))
                      (bK (decide (0 + (0 + (List.take ((List.map (mkV true Write_tfs) c_Dirty).length - (minI (maxI c_Sent 0) (↑(List.map (mkV true Write_tfs) c_Dirty).length : Int)).toNat) (List.drop (minI (maxI c_Sent 0) (↑(List.map (mkV true Write_tfs) c_Dirty).length : Int)).toNat (List.map (mkV true Write_tfs) c_Dirty))).length) ≤ ([] ++ List.take ((List.map (mkV true Write_tfs) c_Dirty).length - (minI (maxI c_Sent 0) (↑(List.map (mkV true Write_tfs) c_Dirty).length : Int)).toNat) (List.drop (minI (maxI c_Sent 0) (↑(List.map (mkV true Write_tfs) c_Dirty).length : Int)).toNat (List.map (mkV true Write_tfs) c_Dirty))).length)) (some { pan := false, res := AV.agg [AV.int IntKind.i64 c_Mode, AV.int IntKind.i64 c_Until, AV.int IntKind.i64 ver, AV.str (allF d0.fst d0.snd.snd), AV.slc false (List.take (0 + (List.take ((List.map (mkV true Write_tfs) c_Dirty).length - (minI (maxI c_Sent 0) (↑(List.map (mkV true Write_tfs) c_Dirty).length : Int)).toNat) (List.drop (minI (maxI c_Sent 0) (↑(List.map (mkV true Write_tfs) c_Dirty).length : Int)).toNat (List.map (mkV true Write_tfs) c_Dirty))).length) (List.drop 0 ([] ++ List.take ((List.map (mkV true Write_tfs) c_Dirty).length - (minI (maxI c_Sent 0) (↑(List.map (mkV true Write_tfs) c_Dirty).length : Int)).toNat) (List.drop (minI (maxI c_Sent 0) (↑(List.map (mkV true Write_tfs) c_Dirty).length : Int)).toNat (List.map (mkV true Write_tfs) c_Dirty))))), AV.int IntKind.i64 0, AV.bool c_Called, AV.bool c_Lost], out := [], new := [] })
                        none)
                      none))
                  none)
                none)
              none)
            none)
        none)
      none)
    none)
theorem doneR_w (c_Mode : Int) (c_Until : Int) (c_Ver : Int) (c_Body : List UInt8) (c_Dirty_x : Bool) (c_Dirty : List Write_T) (c_Sent : Int) (c_Called : Bool) (c_Lost : Bool) (ver : Int) : unitQ Try.prog cfg PKd LP0 false 18 (groupA doneR_sh (Tu.mk doneR_fs (c_Mode, c_Until, c_Ver, c_Body, (c_Dirty_x, c_Dirty), c_Sent, c_Called, c_Lost, ver))) [] = doneR_r c_Mode c_Until c_Ver c_Body c_Dirty_x c_Dirty c_Sent c_Called c_Lost ver := by kernel_rfl

abbrev bufX_id : Nat := 24
abbrev bufX_sh : Shp := [some 8, some 2]
abbrev bufX_fs : List Lf := [.fi .i64, .fi .i64, .fi .i64, .fs, .fl true Write_tfs, .fi .i64, .fb, .fb, .fi .i64, .fs]
abbrev bufX_rsh : Shp := [some 8, none]
abbrev bufX_rfs : List Lf := [.fi .i64, .fi .i64, .fi .i64, .fs, .fl true Write_tfs, .fi .i64, .fb, .fb, .fb]
noncomputable def bufX_r (c_Mode : Int) (c_Until : Int) (c_Ver : Int) (c_Body : List UInt8) (c_Dirty_x : Bool) (c_Dirty : List Write_T) (c_Sent : Int) (c_Called : Bool) (c_Lost : Bool) (w_Off : Int) (w_B : List UInt8) : Option Ret :=
  bK (decide (5 ≤ (↑(List.map (mkV true Write_tfs) c_Dirty).length : Int))) (some { pan := false, res := AV.tup [AV.agg [AV.int IntKind.i64 c_Mode, AV.int IntKind.i64 c_Until, AV.int IntKind.i64 c_Ver, AV.str c_Body, AV.slc c_Dirty_x (List.map (mkV true Write_tfs) c_Dirty), AV.int IntKind.i64 c_Sent, AV.bool c_Called, AV.bool c_Lost], AV.bool false], out := [], new := [] })
  (bK (!decide (c_Mode = 2)) (some { pan := false, res := AV.tup [AV.agg [AV.int IntKind.i64 c_Mode, AV.int IntKind.i64 c_Until, AV.int IntKind.i64 c_Ver, AV.str c_Body, AV.slc c_Dirty_x (List.map (mkV true Write_tfs) c_Dirty), AV.int IntKind.i64 c_Sent, AV.bool c_Called, AV.bool c_Lost], AV.bool false], out := [], new := [] })
    (oK (mayRS.dec [AV.agg [AV.int IntKind.i64 w_Off, AV.str w_B]] []) fun (d0 : Int × List UInt8) =>
      bK (!decide (mayB d0)) (some { pan := false, res := AV.tup [AV.agg [AV.int IntKind.i64 c_Mode, AV.int IntKind.i64 c_Until, AV.int IntKind.i64 c_Ver, AV.str c_Body, AV.slc c_Dirty_x (List.map (mkV true Write_tfs) c_Dirty), AV.int IntKind.i64 c_Sent, AV.bool c_Called, AV.bool c_Lost], AV.bool false], out := [], new := [] })
        (bK ((List.map (mkV true Write_tfs) c_Dirty).all fun (y : AV) => decide (y.cells.length = 2))
          (bK (List.map (mkV true Write_tfs) c_Dirty).isEmpty (some { pan := false, res := AV.tup [AV.agg [AV.int IntKind.i64 c_Mode, AV.int IntKind.i64 c_Until, AV.int IntKind.i64 c_Ver, AV.str c_Body, AV.slc false [AV.agg [AV.int IntKind.i64 w_Off, AV.str w_B]], AV.int IntKind.i64 c_Sent, AV.bool c_Called, AV.bool c_Lost], AV.bool true], out := [], new := [] })
            (bK (true && bytesFit Try.prog 24 (0 + (List.map (mkV true Write_tfs) c_Dirty).length)) (bK (decide (0 + (0 + (List.map (mkV true Write_tfs) c_Dirty).length) ≤ ([] ++ List.map (mkV true Write_tfs) c_Dirty).length)) (bK (decide (0 = 0 ∧ 0 + (List.map (mkV true Write_tfs) c_Dirty).length = ([] ++ List.map (mkV true Write_tfs) c_Dirty).length) && bytesFit Try.prog 24 (0 + (List.map (mkV true Write_tfs) c_Dirty).length + 1)) (bK (decide (0 + (0 + (List.map (mkV true Write_tfs) c_Dirty).length + 1) ≤ (List.take (0 + (List.map (mkV true Write_tfs) c_Dirty).length) ([] ++ List.map (mkV true Write_tfs) c_Dirty) ++ [AV.agg [AV.int IntKind.i64 w_Off, AV.str w_B]]).length)) (some { pan := false, res := AV.tup [AV.agg [AV.int IntKind.i64 c_Mode, AV.int IntKind.i64 c_Until, AV.int IntKind.i64 c_Ver, AV.str c_Body, AV.slc false (List.take (0 + (List.map (mkV true Write_tfs) c_Dirty).length + 1) (List.drop 0 (List.take (0 + (List.map (mkV true Write_tfs) c_Dirty).length) ([] ++ List.map (mkV true Write_tfs) c_Dirty) ++ [AV.agg [AV.int IntKind.i64 w_Off, AV.str w_B]]))), AV.int IntKind.i64 c_Sent, AV.bool c_Called, AV.bool c_Lost], AV.bool true], out := [], new := [] }) none) none) none) none))
          none)))
theorem bufX_w (c_Mode : Int) (c_Until : Int) (c_Ver : Int) (c_Body : List UInt8) (c_Dirty_x : Bool) (c_Dirty : List Write_T) (c_Sent : Int) (c_Called : Bool) (c_Lost : Bool) (w_Off : Int) (w_B : List UInt8) : unitQ Try.prog cfg PKd LP0 false 24 (groupA bufX_sh (Tu.mk bufX_fs (c_Mode, c_Until, c_Ver, c_Body, (c_Dirty_x, c_Dirty), c_Sent, c_Called, c_Lost, w_Off, w_B))) [] = bufX_r c_Mode c_Until c_Ver c_Body c_Dirty_x c_Dirty c_Sent c_Called c_Lost w_Off w_B := by kernel_rfl

abbrev buf_id : Nat := 23
abbrev buf_sh : Shp := [some 8, some 2]
abbrev buf_fs : List Lf := [.fi .i64, .fi .i64, .fi .i64, .fs, .fl true Write_tfs, .fi .i64, .fb, .fb, .fi .i64, .fs]
abbrev buf_rsh : Shp := [some 8, none]
abbrev buf_rfs : List Lf := [.fi .i64, .fi .i64, .fi .i64, .fs, .fl true Write_tfs, .fi .i64, .fb, .fb, .fb]
noncomputable def buf_r (c_Mode : Int) (c_Until : Int) (c_Ver : Int) (c_Body : List UInt8) (c_Dirty_x : Bool) (c_Dirty : List Write_T) (c_Sent : Int) (c_Called : Bool) (c_Lost : Bool) (w_Off : Int) (w_B : List UInt8) : Option Ret :=
  oK (cloneS.dec [AV.slc c_Dirty_x (List.map (mkV true Write_tfs) c_Dirty)] []) fun (d0 : Bool × List (Int × List UInt8)) =>
  bK (List.map (mkV true Write_tfs) (cloneF d0).snd).isEmpty
    (bK (decide (5 ≤ (↑(List.map (mkV true Write_tfs) c_Dirty).length : Int))) (oK (cloneS.dec [AV.slc c_Dirty_x (List.map (mkV true Write_tfs) c_Dirty)] []) fun (d1 : Bool × List (Int × List UInt8)) => bK (List.map (mkV true Write_tfs) (cloneF d1).snd).isEmpty (some { pan := false, res := AV.tup [AV.agg [AV.int IntKind.i64 c_Mode, AV.int IntKind.i64 c_Until, AV.int IntKind.i64 c_Ver, AV.str c_Body, AV.slc true [], AV.int IntKind.i64 c_Sent, AV.bool c_Called, AV.bool c_Lost], AV.bool false], out := [], new := [] }) (bK (decide (0 + (List.map (mkV true Write_tfs) (cloneF d1).snd).length ≤ (List.map (mkV true Write_tfs) (cloneF d1).snd).length)) (some { pan := false, res := AV.tup [AV.agg [AV.int IntKind.i64 c_Mode, AV.int IntKind.i64 c_Until, AV.int IntKind.i64 c_Ver, AV.str c_Body, AV.slc false (List.take (List.map (mkV true Write_tfs) (cloneF d1).snd).length (List.drop 0 (List.map (mkV true Write_tfs) (cloneF d1).snd))), AV.int IntKind.i64 c_Sent, AV.bool c_Called, AV.bool c_Lost], AV.bool false], out := [], new := [] }) none))
      (bK (!decide (c_Mode = 2)) (oK (cloneS.dec [AV.slc c_Dirty_x (List.map (mkV true Write_tfs) c_Dirty)] []) fun (d2 : Bool × List (Int × List UInt8)) => bK (List.map (mkV true Write_tfs) (cloneF d2).snd).isEmpty (some { pan := false, res := AV.tup [AV.agg [AV.int IntKind.i64 c_Mode, AV.int IntKind.i64 c_Until, AV.int IntKind.i64 c_Ver, AV.str c_Body, AV.slc true [], AV.int IntKind.i64 c_Sent, AV.bool c_Called, AV.bool c_Lost], AV.bool false], out := [], new := [] }) (bK (decide (0 + (List.map (mkV true Write_tfs) (cloneF d2).snd).length ≤ (List.map (mkV true Write_tfs) (cloneF d2).snd).length)) (some { pan := false, res := AV.tup [AV.agg [AV.int IntKind.i64 c_Mode, AV.int IntKind.i64 c_Until, AV.int IntKind.i64 c_Ver, AV.str c_Body, AV.slc false (List.take (List.map (mkV true Write_tfs) (cloneF d2).snd).length (List.drop 0 (List.map (mkV true Write_tfs) (cloneF d2).snd))), AV.int IntKind.i64 c_Sent, AV.bool c_Called, AV.bool c_Lost], AV.bool false], out := [], new := [] }) none))
        (oK (mayWS.dec [AV.agg [AV.int IntKind.i64 w_Off, AV.str w_B]] []) fun (d3 : Int × List UInt8) => bK (!decide (mayB d3)) (oK (cloneS.dec [AV.slc c_Dirty_x (List.map (mkV true Write_tfs) c_Dirty)] []) fun (d4 : Bool × List (Int × List UInt8)) => bK (List.map (mkV true Write_tfs) (cloneF d4).snd).isEmpty (some { pan := false, res := AV.tup [AV.agg [AV.int IntKind.i64 c_Mode, AV.int IntKind.i64 c_Until, AV.int IntKind.i64 c_Ver, AV.str c_Body, AV.slc true [], AV.int IntKind.i64 c_Sent, AV.bool c_Called, AV.bool c_Lost], AV.bool false], out := [], new := [] }) (bK (decide (0 + (List.map (mkV true Write_tfs) (cloneF d4).snd).length ≤ (List.map (mkV true Write_tfs) (cloneF d4).snd).length)) (some { pan := false, res := AV.tup [AV.agg [AV.int IntKind.i64 c_Mode, AV.int IntKind.i64 c_Until, AV.int IntKind.i64 c_Ver, AV.str c_Body, AV.slc false (List.take (List.map (mkV true Write_tfs) (cloneF d4).snd).length (List.drop 0 (List.map (mkV true Write_tfs) (cloneF d4).snd))), AV.int IntKind.i64 c_Sent, AV.bool c_Called, AV.bool c_Lost], AV.bool false], out := [], new := [] }) none)) (some { pan := false, res := AV.tup [AV.agg [AV.int IntKind.i64 c_Mode, AV.int IntKind.i64 c_Until, AV.int IntKind.i64 c_Ver, AV.str c_Body, AV.slc false [AV.agg [AV.int IntKind.i64 w_Off, AV.str w_B]], AV.int IntKind.i64 c_Sent, AV.bool c_Called, AV.bool c_Lost], AV.bool true], out := [], new := [] }))))
    (bK (decide (5 ≤ (↑(List.map (mkV true Write_tfs) c_Dirty).length : Int))) (oK (cloneS.dec [AV.slc c_Dirty_x (List.map (mkV true Write_tfs) c_Dirty)] []) fun (d5 : Bool × List (Int × List UInt8)) => bK (List.map (mkV true Write_tfs) (cloneF d5).snd).isEmpty (some { pan := false, res := AV.tup [AV.agg [AV.int IntKind.i64 c_Mode, AV.int IntKind.i64 c_Until, AV.int IntKind.i64 c_Ver, AV.str c_Body, AV.slc true [], AV.int IntKind.i64 c_Sent, AV.bool c_Called, AV.bool c_Lost], AV.bool false], out := [], new := [] }) (bK (decide (0 + (List.map (mkV true Write_tfs) (cloneF d5).snd).length ≤ (List.map (mkV true Write_tfs) (cloneF d5).snd).length)) (some { pan := false, res := AV.tup [AV.agg [AV.int IntKind.i64 c_Mode, AV.int IntKind.i64 c_Until, AV.int IntKind.i64 c_Ver, AV.str c_Body, AV.slc false (List.take (List.map (mkV true Write_tfs) (cloneF d5).snd).length (List.drop 0 (List.map (mkV true Write_tfs) (cloneF d5).snd))), AV.int IntKind.i64 c_Sent, AV.bool c_Called, AV.bool c_Lost], AV.bool false], out := [], new := [] }) none))
      (bK (!decide (c_Mode = 2)) (oK (cloneS.dec [AV.slc c_Dirty_x (List.map (mkV true Write_tfs) c_Dirty)] []) fun (d6 : Bool × List (Int × List UInt8)) => bK (List.map (mkV true Write_tfs) (cloneF d6).snd).isEmpty (some { pan := false, res := AV.tup [AV.agg [AV.int IntKind.i64 c_Mode, AV.int IntKind.i64 c_Until, AV.int IntKind.i64 c_Ver, AV.str c_Body, AV.slc true [], AV.int IntKind.i64 c_Sent, AV.bool c_Called, AV.bool c_Lost], AV.bool false], out := [], new := [] }) (bK (decide (0 + (List.map (mkV true Write_tfs) (cloneF d6).snd).length ≤ (List.map (mkV true Write_tfs) (cloneF d6).snd).length)) (some { pan := false, res := AV.tup [AV.agg [AV.int IntKind.i64 c_Mode, AV.int IntKind.i64 c_Until, AV.int IntKind.i64 c_Ver, AV.str c_Body, AV.slc false (List.take (List.map (mkV true Write_tfs) (cloneF d6).snd).length (List.drop 0 (List.map (mkV true Write_tfs) (cloneF d6).snd))), AV.int IntKind.i64 c_Sent, AV.bool c_Called, AV.bool c_Lost], AV.bool false], out := [], new := [] }) none))
        (oK (mayWS.dec [AV.agg [AV.int IntKind.i64 w_Off, AV.str w_B]] []) fun (d7 : Int × List UInt8) =>
          bK (!decide (mayB d7)) (oK (cloneS.dec [AV.slc c_Dirty_x (List.map (mkV true Write_tfs) c_Dirty)] []) fun (d8 : Bool × List (Int × List UInt8)) => bK (List.map (mkV true Write_tfs) (cloneF d8).snd).isEmpty (some { pan := false, res := AV.tup [AV.agg [AV.int IntKind.i64 c_Mode, AV.int IntKind.i64 c_Until, AV.int IntKind.i64 c_Ver, AV.str c_Body, AV.slc true [], AV.int IntKind.i64 c_Sent, AV.bool c_Called, AV.bool c_Lost], AV.bool false], out := [], new := [] }) (bK (decide (0 + (List.map (mkV true Write_tfs) (cloneF d8).snd).length ≤ (List.map (mkV true Write_tfs) (cloneF d8).snd).length)) (some { pan := false, res := AV.tup [AV.agg [AV.int IntKind.i64 c_Mode, AV.int IntKind.i64 c_Until, AV.int IntKind.i64 c_Ver, AV.str c_Body, AV.slc false (List.take (List.map (mkV true Write_tfs) (cloneF d8).snd).length (List.drop 0 (List.map (mkV true Write_tfs) (cloneF d8).snd))), AV.int IntKind.i64 c_Sent, AV.bool c_Called, AV.bool c_Lost], AV.bool false], out := [], new := [] }) none))
            (bK (decide (0 + (List.map (mkV true Write_tfs) (cloneF d0).snd).length ≤ (List.map (mkV true Write_tfs) (cloneF d0).snd).length)) (bK (decide (0 = 0 ∧ (List.map (mkV true Write_tfs) (cloneF d0).snd).length = (List.map (mkV true Write_tfs) (cloneF d0).snd).length) && bytesFit Try.prog 24 ((List.map (mkV true Write_tfs) (cloneF d0).snd).length + 1)) (bK (decide (0 + ((List.map (mkV true Write_tfs) (cloneF d0).snd).length + 1) ≤ (List.take (List.map (mkV true Write_tfs) (cloneF d0).snd).length (List.map (mkV true Write_tfs) (cloneF d0).snd) ++ [AV.agg [AV.int IntKind.i64 w_Off, AV.str w_B]]).length)) (some { pan := false, res := AV.tup [AV.agg [AV.int IntKind.i64 c_Mode, AV.int IntKind.i64 c_Until, AV.int IntKind.i64 c_Ver, AV.str c_Body, AV.slc false (List.take ((List.map (mkV true Write_tfs) (cloneF d0).snd).length + 1) (List.drop 0 (List.take (List.map (mkV true Write_tfs) (cloneF d0).snd).length (List.map (mkV true Write_tfs) (cloneF d0).snd) ++ [AV.agg [AV.int IntKind.i64 w_Off, AV.str w_B]]))), AV.int IntKind.i64 c_Sent, AV.bool c_Called, AV.bool c_Lost], AV.bool true], out := [], new := [] }) none) none) none))))
theorem buf_w (c_Mode : Int) (c_Until : Int) (c_Ver : Int) (c_Body : List UInt8) (c_Dirty_x : Bool) (c_Dirty : List Write_T) (c_Sent : Int) (c_Called : Bool) (c_Lost : Bool) (w_Off : Int) (w_B : List UInt8) : unitQ Try.prog cfg PKd LP0 false 23 (groupA buf_sh (Tu.mk buf_fs (c_Mode, c_Until, c_Ver, c_Body, (c_Dirty_x, c_Dirty), c_Sent, c_Called, c_Lost, w_Off, w_B))) [] = buf_r c_Mode c_Until c_Ver c_Body c_Dirty_x c_Dirty c_Sent c_Called c_Lost w_Off w_B := by kernel_rfl

abbrev cA (d : Tu viewC_fs) : Cache_T := d
noncomputable def viewCS : FS := ⟨viewC_sh, viewC_fs, viewC_rsh, viewC_rfs, fun d => (cA d).2.2.2.1.length ≤ 24 ∧ (dOf d).length ≤ 1000, fun d => allF (cA d).2.2.2.1 (dOf d), none⟩
theorem viewC_v (c_Mode : Int) (c_Until : Int) (c_Ver : Int) (c_Body : List UInt8) (c_Dirty_x : Bool) (c_Dirty : List Write_T) (c_Sent : Int) (c_Called : Bool) (c_Lost : Bool) (h : viewCS.pre (c_Mode, c_Until, c_Ver, c_Body, (c_Dirty_x, c_Dirty), c_Sent, c_Called, c_Lost)) : viewC_r c_Mode c_Until c_Ver c_Body c_Dirty_x c_Dirty c_Sent c_Called c_Lost = some (viewCS.ret (c_Mode, c_Until, c_Ver, c_Body, (c_Dirty_x, c_Dirty), c_Sent, c_Called, c_Lost)) := by
  unfold viewC_r
  exact oK_fsq (Q := fun z => z = _) allWS (c_Body, (c_Dirty_x, c_Dirty)) h rfl
theorem viewC_ok : ∀ (d : Tu viewC_fs), viewCS.pre d → unitQ Try.prog cfg PKd LP0 false 13 (viewCS.args d) [] = some (viewCS.ret d)
  | (c_Mode, c_Until, c_Ver, c_Body, (c_Dirty_x, c_Dirty), c_Sent, c_Called, c_Lost), h => (viewC_w c_Mode c_Until c_Ver c_Body c_Dirty_x c_Dirty c_Sent c_Called c_Lost).trans (viewC_v c_Mode c_Until c_Ver c_Body c_Dirty_x c_Dirty c_Sent c_Called c_Lost h)
noncomputable def PKv1 : PKs := PKd.add 13 viewCS.pk
theorem PKv1_ok : PKsOk Try.prog PKv1 := PKsOk.fs (cfg := cfg) PKd_ok (fnOk PKd_ok 21) 13 rfl LP0 fLoops_none viewCS viewC_ok

noncomputable def viewRS : FS := ⟨viewR_sh, viewR_fs, viewR_rsh, viewR_rfs, fun d => (cA d).2.2.2.1.length ≤ 24 ∧ (dOf d).length ≤ 1000, fun d => allF (cA d).2.2.2.1 (dOf d), none⟩
theorem viewR_v (c_Mode : Int) (c_Until : Int) (c_Ver : Int) (c_Body : List UInt8) (c_Dirty_x : Bool) (c_Dirty : List Write_T) (c_Sent : Int) (c_Called : Bool) (c_Lost : Bool) (h : viewRS.pre (c_Mode, c_Until, c_Ver, c_Body, (c_Dirty_x, c_Dirty), c_Sent, c_Called, c_Lost)) : viewR_r c_Mode c_Until c_Ver c_Body c_Dirty_x c_Dirty c_Sent c_Called c_Lost = some (viewRS.ret (c_Mode, c_Until, c_Ver, c_Body, (c_Dirty_x, c_Dirty), c_Sent, c_Called, c_Lost)) := by
  unfold viewR_r
  exact oK_fsq (Q := fun z => z = _) allRS (c_Body, (c_Dirty_x, c_Dirty)) h rfl
theorem viewR_ok : ∀ (d : Tu viewR_fs), viewRS.pre d → unitQ Try.prog cfg PKd LP0 false 14 (viewRS.args d) [] = some (viewRS.ret d)
  | (c_Mode, c_Until, c_Ver, c_Body, (c_Dirty_x, c_Dirty), c_Sent, c_Called, c_Lost), h => (viewR_w c_Mode c_Until c_Ver c_Body c_Dirty_x c_Dirty c_Sent c_Called c_Lost).trans (viewR_v c_Mode c_Until c_Ver c_Body c_Dirty_x c_Dirty c_Sent c_Called c_Lost h)
noncomputable def PKv2 : PKs := PKd.add 14 viewRS.pk
theorem PKv2_ok : PKsOk Try.prog PKv2 := PKsOk.fs (cfg := cfg) PKd_ok (fnOk PKd_ok 21) 14 rfl LP0 fLoops_none viewRS viewR_ok

theorem reset_eq (md un ve : Int) (bo : List UInt8) (x : Bool) (D : List Write_T) (se : Int) (ca lo : Bool) : (bK lo (some ({ pan := false, res := AV.agg [AV.int IntKind.i64 0, AV.int IntKind.i64 0, AV.int IntKind.i64 0, AV.str [], AV.slc true [], AV.int IntKind.i64 0, AV.bool false, AV.bool true], out := [], new := [] } : Ret)) (some { pan := false, res := AV.agg [AV.int IntKind.i64 0, AV.int IntKind.i64 0, AV.int IntKind.i64 0, AV.str [], AV.slc true [], AV.int IntKind.i64 0, AV.bool false, AV.bool (decide (0 < (↑(List.map (mkV true Write_tfs) D).length : Int)))], out := [], new := [] })) = some { pan := false, res := .agg (Tu.mk Cache_tfs (resetF (md, un, ve, bo, (x, D), se, ca, lo))), out := [], new := [] } := by
  rw [List.length_map]
  cases lo <;> rfl
def resetCS : FS := ⟨resetC_sh, resetC_fs, resetC_rsh, resetC_rfs, fun _ => True, fun d => resetF d, none⟩
theorem resetC_v (c_Mode : Int) (c_Until : Int) (c_Ver : Int) (c_Body : List UInt8) (c_Dirty_x : Bool) (c_Dirty : List Write_T) (c_Sent : Int) (c_Called : Bool) (c_Lost : Bool) (h : resetCS.pre (c_Mode, c_Until, c_Ver, c_Body, (c_Dirty_x, c_Dirty), c_Sent, c_Called, c_Lost)) : resetC_r c_Mode c_Until c_Ver c_Body c_Dirty_x c_Dirty c_Sent c_Called c_Lost = some (resetCS.ret (c_Mode, c_Until, c_Ver, c_Body, (c_Dirty_x, c_Dirty), c_Sent, c_Called, c_Lost)) := by
  unfold resetC_r
  exact reset_eq c_Mode c_Until c_Ver c_Body c_Dirty_x c_Dirty c_Sent c_Called c_Lost
theorem resetC_ok : ∀ (d : Tu resetC_fs), resetCS.pre d → unitQ Try.prog cfg PKd LP0 false 15 (resetCS.args d) [] = some (resetCS.ret d)
  | (c_Mode, c_Until, c_Ver, c_Body, (c_Dirty_x, c_Dirty), c_Sent, c_Called, c_Lost), h => (resetC_w c_Mode c_Until c_Ver c_Body c_Dirty_x c_Dirty c_Sent c_Called c_Lost).trans (resetC_v c_Mode c_Until c_Ver c_Body c_Dirty_x c_Dirty c_Sent c_Called c_Lost h)
noncomputable def PKv3 : PKs := PKd.add 15 resetCS.pk
theorem PKv3_ok : PKsOk Try.prog PKv3 := PKsOk.fs (cfg := cfg) PKd_ok (fnOk PKd_ok 21) 15 rfl LP0 fLoops_none resetCS resetC_ok

def resetRS : FS := ⟨resetR_sh, resetR_fs, resetR_rsh, resetR_rfs, fun _ => True, fun d => resetF d, none⟩
theorem resetR_v (c_Mode : Int) (c_Until : Int) (c_Ver : Int) (c_Body : List UInt8) (c_Dirty_x : Bool) (c_Dirty : List Write_T) (c_Sent : Int) (c_Called : Bool) (c_Lost : Bool) (h : resetRS.pre (c_Mode, c_Until, c_Ver, c_Body, (c_Dirty_x, c_Dirty), c_Sent, c_Called, c_Lost)) : resetR_r c_Mode c_Until c_Ver c_Body c_Dirty_x c_Dirty c_Sent c_Called c_Lost = some (resetRS.ret (c_Mode, c_Until, c_Ver, c_Body, (c_Dirty_x, c_Dirty), c_Sent, c_Called, c_Lost)) := by
  unfold resetR_r
  exact reset_eq c_Mode c_Until c_Ver c_Body c_Dirty_x c_Dirty c_Sent c_Called c_Lost
theorem resetR_ok : ∀ (d : Tu resetR_fs), resetRS.pre d → unitQ Try.prog cfg PKd LP0 false 16 (resetRS.args d) [] = some (resetRS.ret d)
  | (c_Mode, c_Until, c_Ver, c_Body, (c_Dirty_x, c_Dirty), c_Sent, c_Called, c_Lost), h => (resetR_w c_Mode c_Until c_Ver c_Body c_Dirty_x c_Dirty c_Sent c_Called c_Lost).trans (resetR_v c_Mode c_Until c_Ver c_Body c_Dirty_x c_Dirty c_Sent c_Called c_Lost h)
noncomputable def PKv4 : PKs := PKd.add 16 resetRS.pk
theorem PKv4_ok : PKsOk Try.prog PKv4 := PKsOk.fs (cfg := cfg) PKd_ok (fnOk PKd_ok 21) 16 rfl LP0 fLoops_none resetRS resetR_ok

def lapseXF (c : Cache_T) (now : Int) : Cache_T := if c.1 = 0 ∨ now < c.2.1 then c else resetF c
def lapseRS : FS := ⟨lapseR_sh, lapseR_fs, lapseR_rsh, lapseR_rfs, fun _ => True, fun d => lapseXF (cOf d) (nOf d), none⟩
theorem lapseR_v (c_Mode : Int) (c_Until : Int) (c_Ver : Int) (c_Body : List UInt8) (c_Dirty_x : Bool) (c_Dirty : List Write_T) (c_Sent : Int) (c_Called : Bool) (c_Lost : Bool) (now : Int) (h : lapseRS.pre (c_Mode, c_Until, c_Ver, c_Body, (c_Dirty_x, c_Dirty), c_Sent, c_Called, c_Lost, now)) : lapseR_r c_Mode c_Until c_Ver c_Body c_Dirty_x c_Dirty c_Sent c_Called c_Lost now = some (lapseRS.ret (c_Mode, c_Until, c_Ver, c_Body, (c_Dirty_x, c_Dirty), c_Sent, c_Called, c_Lost, now)) := by
  show _ = some (lapseRS.out (lapseXF (c_Mode, c_Until, c_Ver, c_Body, (c_Dirty_x, c_Dirty), c_Sent, c_Called, c_Lost) now))
  unfold lapseR_r
  rw [reset_eq c_Mode c_Until c_Ver c_Body c_Dirty_x c_Dirty c_Sent c_Called c_Lost]
  unfold lapseXF
  refine bK_i (fun c1 => ?_) (fun c1 => bK_i (fun c2 => ?_) (fun c2 => ?_))
  · rw [if_pos (.inl c1)]; rfl
  · rw [bK_pos (by simp [c1]), if_pos (.inr c2)]; rfl
  · rw [if_neg (by rintro (h | h); exact c1 h; exact c2 h)]; rfl
theorem lapseR_ok : ∀ (d : Tu lapseR_fs), lapseRS.pre d → unitQ Try.prog cfg PKd LP0 false 22 (lapseRS.args d) [] = some (lapseRS.ret d)
  | (c_Mode, c_Until, c_Ver, c_Body, (c_Dirty_x, c_Dirty), c_Sent, c_Called, c_Lost, now), h => (lapseR_w c_Mode c_Until c_Ver c_Body c_Dirty_x c_Dirty c_Sent c_Called c_Lost now).trans (lapseR_v c_Mode c_Until c_Ver c_Body c_Dirty_x c_Dirty c_Sent c_Called c_Lost now h)
noncomputable def PKv5 : PKs := PKd.add 22 lapseRS.pk
theorem PKv5_ok : PKsOk Try.prog PKv5 := PKsOk.fs (cfg := cfg) PKd_ok (fnOk PKd_ok 21) 22 rfl LP0 fLoops_none lapseRS lapseR_ok

def validXS : FS := ⟨validX_sh, validX_fs, validX_rsh, validX_rfs, fun _ => True, fun d => validF (cOf d) (nOf d), none⟩
theorem validX_v (c_Mode : Int) (c_Until : Int) (c_Ver : Int) (c_Body : List UInt8) (c_Dirty_x : Bool) (c_Dirty : List Write_T) (c_Sent : Int) (c_Called : Bool) (c_Lost : Bool) (now : Int) (h : validXS.pre (c_Mode, c_Until, c_Ver, c_Body, (c_Dirty_x, c_Dirty), c_Sent, c_Called, c_Lost, now)) : validX_r c_Mode c_Until c_Ver c_Body c_Dirty_x c_Dirty c_Sent c_Called c_Lost now = some (validXS.ret (c_Mode, c_Until, c_Ver, c_Body, (c_Dirty_x, c_Dirty), c_Sent, c_Called, c_Lost, now)) := by
  show _ = some (validXS.out (validF (c_Mode, c_Until, c_Ver, c_Body, (c_Dirty_x, c_Dirty), c_Sent, c_Called, c_Lost) now))
  unfold validX_r validF
  refine bK_i (fun c1 => ?_) (fun c1 => ?_)
  · rw [if_pos c1]; rfl
  · rw [if_neg c1]; rfl
theorem validX_ok : ∀ (d : Tu validX_fs), validXS.pre d → unitQ Try.prog cfg PKd LP0 false 20 (validXS.args d) [] = some (validXS.ret d)
  | (c_Mode, c_Until, c_Ver, c_Body, (c_Dirty_x, c_Dirty), c_Sent, c_Called, c_Lost, now), h => (validX_w c_Mode c_Until c_Ver c_Body c_Dirty_x c_Dirty c_Sent c_Called c_Lost now).trans (validX_v c_Mode c_Until c_Ver c_Body c_Dirty_x c_Dirty c_Sent c_Called c_Lost now h)
noncomputable def PKv6 : PKs := PKd.add 20 validXS.pk
theorem PKv6_ok : PKsOk Try.prog PKv6 := PKsOk.fs (cfg := cfg) PKd_ok (fnOk PKd_ok 21) 20 rfl LP0 fLoops_none validXS validX_ok

noncomputable def tw3 (x : Bool) (D : List Write_T) (k : AV → Option Ret) : Option Ret := oK (cloneS.dec [AV.slc x (List.map (mkV true Write_tfs) D)] []) fun (d1 : Bool × List (Int × List UInt8)) => bK (List.map (mkV true Write_tfs) (cloneF d1).snd).isEmpty (k (.slc true [])) (bK (decide (0 + (List.map (mkV true Write_tfs) (cloneF d1).snd).length ≤ (List.map (mkV true Write_tfs) (cloneF d1).snd).length)) (k (.slc false (List.take (List.map (mkV true Write_tfs) (cloneF d1).snd).length (List.drop 0 (List.map (mkV true Write_tfs) (cloneF d1).snd))))) none)
theorem tw3_eq {x : Bool} {D : List Write_T} {k : AV → Option Ret} (h : D.length ≤ 100000) : tw3 x D k = k (.slc D.isEmpty (D.map (mkV true Write_tfs))) := by
  unfold tw3
  refine oK_fsq (Q := fun z => z = _) cloneS (x, D) h ?_
  have hc : (cloneF (x, D)).2 = D := rfl
  simp only [hc]
  cases D with
  | nil => rfl
  | cons d l =>
    refine bK_fq (Q := fun z => z = _) rfl ?_
    rw [bK_pos (by simp), List.drop_zero, List.take_length]
    rfl
abbrev letD : Type := Cache_T × Int × Int × Int × List UInt8
def letCS : FS := ⟨letC_sh, letC_fs, letC_rsh, letC_rfs, fun d => d.2.2.2.2.1.2.length ≤ 100000, fun d => (d.2.2.2.2.2.2.2.2.1, d.2.2.2.2.2.2.2.2.2.1, d.2.2.2.2.2.2.2.2.2.2.1, d.2.2.2.2.2.2.2.2.2.2.2, (d.2.2.2.2.1.2.isEmpty, d.2.2.2.2.1.2), d.2.2.2.2.2.1, false, d.2.2.2.2.2.2.2.1), none⟩
theorem letC_v (c_Mode : Int) (c_Until : Int) (c_Ver : Int) (c_Body : List UInt8) (c_Dirty_x : Bool) (c_Dirty : List Write_T) (c_Sent : Int) (c_Called : Bool) (c_Lost : Bool) (mode : Int) (until_ : Int) (ver : Int) (body : List UInt8) (h : letCS.pre (c_Mode, c_Until, c_Ver, c_Body, (c_Dirty_x, c_Dirty), c_Sent, c_Called, c_Lost, mode, until_, ver, body)) : letC_r c_Mode c_Until c_Ver c_Body c_Dirty_x c_Dirty c_Sent c_Called c_Lost mode until_ ver body = some (letCS.ret (c_Mode, c_Until, c_Ver, c_Body, (c_Dirty_x, c_Dirty), c_Sent, c_Called, c_Lost, mode, until_, ver, body)) := by
  have h' : c_Dirty.length ≤ 100000 := h
  unfold letC_r
  exact tw3_eq (k := fun v => some { pan := false, res := AV.agg [AV.int IntKind.i64 mode, AV.int IntKind.i64 until_, AV.int IntKind.i64 ver, AV.str body, v, AV.int IntKind.i64 c_Sent, AV.bool false, AV.bool c_Lost], out := [], new := [] }) h'
theorem letC_ok : ∀ (d : Tu letC_fs), letCS.pre d → unitQ Try.prog cfg PKd LP0 false 25 (letCS.args d) [] = some (letCS.ret d)
  | (c_Mode, c_Until, c_Ver, c_Body, (c_Dirty_x, c_Dirty), c_Sent, c_Called, c_Lost, mode, until_, ver, body), h => (letC_w c_Mode c_Until c_Ver c_Body c_Dirty_x c_Dirty c_Sent c_Called c_Lost mode until_ ver body).trans (letC_v c_Mode c_Until c_Ver c_Body c_Dirty_x c_Dirty c_Sent c_Called c_Lost mode until_ ver body h)
noncomputable def PKv7 : PKs := PKd.add 25 letCS.pk
theorem PKv7_ok : PKsOk Try.prog PKv7 := PKsOk.fs (cfg := cfg) PKd_ok (fnOk PKd_ok 21) 25 rfl LP0 fLoops_none letCS letC_ok

def letXS : FS := ⟨letX_sh, letX_fs, letX_rsh, letX_rfs, fun _ => True, fun d => (d.2.2.2.2.2.2.2.2.1, d.2.2.2.2.2.2.2.2.2.1, d.2.2.2.2.2.2.2.2.2.2.1, d.2.2.2.2.2.2.2.2.2.2.2, d.2.2.2.2.1, d.2.2.2.2.2.1, false, d.2.2.2.2.2.2.2.1), none⟩
theorem letX_v (c_Mode : Int) (c_Until : Int) (c_Ver : Int) (c_Body : List UInt8) (c_Dirty_x : Bool) (c_Dirty : List Write_T) (c_Sent : Int) (c_Called : Bool) (c_Lost : Bool) (mode : Int) (until_ : Int) (ver : Int) (body : List UInt8) (h : letXS.pre (c_Mode, c_Until, c_Ver, c_Body, (c_Dirty_x, c_Dirty), c_Sent, c_Called, c_Lost, mode, until_, ver, body)) : letX_r c_Mode c_Until c_Ver c_Body c_Dirty_x c_Dirty c_Sent c_Called c_Lost mode until_ ver body = some (letXS.ret (c_Mode, c_Until, c_Ver, c_Body, (c_Dirty_x, c_Dirty), c_Sent, c_Called, c_Lost, mode, until_, ver, body)) := rfl
theorem letX_ok : ∀ (d : Tu letX_fs), letXS.pre d → unitQ Try.prog cfg PKd LP0 false 26 (letXS.args d) [] = some (letXS.ret d)
  | (c_Mode, c_Until, c_Ver, c_Body, (c_Dirty_x, c_Dirty), c_Sent, c_Called, c_Lost, mode, until_, ver, body), h => (letX_w c_Mode c_Until c_Ver c_Body c_Dirty_x c_Dirty c_Sent c_Called c_Lost mode until_ ver body).trans (letX_v c_Mode c_Until c_Ver c_Body c_Dirty_x c_Dirty c_Sent c_Called c_Lost mode until_ ver body h)
noncomputable def PKv8 : PKs := PKd.add 26 letXS.pk
theorem PKv8_ok : PKsOk Try.prog PKv8 := PKsOk.fs (cfg := cfg) PKd_ok (fnOk PKd_ok 21) 26 rfl LP0 fLoops_none letXS letX_ok

def bufOk (c : Cache_T) (w : Write_T) : Prop := (dOf c).length ≤ 4 ∧ c.1 = 2 ∧ mayB w
instance (c : Cache_T) (w : Write_T) : Decidable (bufOk c w) := inferInstanceAs (Decidable (_ ∧ _))
def addW (c : Cache_T) (w : Write_T) : Cache_T := (c.1, c.2.1, c.2.2.1, c.2.2.2.1, (false, c.2.2.2.2.1.2 ++ [w]), c.2.2.2.2.2.1, c.2.2.2.2.2.2.1, c.2.2.2.2.2.2.2)
/-- With one more write. -/
def bufXF (c : Cache_T) (w : Write_T) : Cache_T × Bool := if bufOk c w then (addW c w, true) else (c, false)
def bufCF (c : Cache_T) (w : Write_T) : Cache_T × Bool := if bufOk c w then (addW c w, true) else (twinF c, false)
abbrev bC (d : Tu bufX_fs) : Cache_T := (d.1, d.2.1, d.2.2.1, d.2.2.2.1, d.2.2.2.2.1, d.2.2.2.2.2.1, d.2.2.2.2.2.2.1, d.2.2.2.2.2.2.2.1)
abbrev bW (d : Tu bufX_fs) : Write_T := d.2.2.2.2.2.2.2.2
abbrev bOut (y : Cache_T × Bool) : Tu bufX_rfs := (y.1.1, y.1.2.1, y.1.2.2.1, y.1.2.2.2.1, y.1.2.2.2.2.1, y.1.2.2.2.2.2.1, y.1.2.2.2.2.2.2.1, y.1.2.2.2.2.2.2.2, y.2)
noncomputable def bufXS : FS := ⟨bufX_sh, bufX_fs, bufX_rsh, bufX_rfs, fun d => (dOf (bC d)).length ≤ 1000, fun d => bOut (bufXF (bC d) (bW d)), none⟩
noncomputable def bufS : FS := ⟨buf_sh, buf_fs, buf_rsh, buf_rfs, fun d => (dOf (bC d)).length ≤ 1000, fun d => bOut (bufCF (bC d) (bW d)), none⟩
theorem bufX_v (c_Mode : Int) (c_Until : Int) (c_Ver : Int) (c_Body : List UInt8) (c_Dirty_x : Bool) (c_Dirty : List Write_T) (c_Sent : Int) (c_Called : Bool) (c_Lost : Bool) (w_Off : Int) (w_B : List UInt8) (h : bufXS.pre (c_Mode, c_Until, c_Ver, c_Body, (c_Dirty_x, c_Dirty), c_Sent, c_Called, c_Lost, w_Off, w_B)) : bufX_r c_Mode c_Until c_Ver c_Body c_Dirty_x c_Dirty c_Sent c_Called c_Lost w_Off w_B = some (bufXS.ret (c_Mode, c_Until, c_Ver, c_Body, (c_Dirty_x, c_Dirty), c_Sent, c_Called, c_Lost, w_Off, w_B)) := by
  have h' : c_Dirty.length ≤ 1000 := h
  have hO : bufOk (c_Mode, c_Until, c_Ver, c_Body, (c_Dirty_x, c_Dirty), c_Sent, c_Called, c_Lost) (w_Off, w_B) ↔ c_Dirty.length ≤ 4 ∧ c_Mode = 2 ∧ mayB (w_Off, w_B) := Iff.rfl
  show _ = some (bufXS.out (bOut (bufXF (c_Mode, c_Until, c_Ver, c_Body, (c_Dirty_x, c_Dirty), c_Sent, c_Called, c_Lost) (w_Off, w_B))))
  have no : ¬ (c_Dirty.length ≤ 4 ∧ c_Mode = 2 ∧ mayB (w_Off, w_B)) → some { pan := false, res := AV.tup [AV.agg [AV.int IntKind.i64 c_Mode, AV.int IntKind.i64 c_Until, AV.int IntKind.i64 c_Ver, AV.str c_Body, AV.slc c_Dirty_x (List.map (mkV true Write_tfs) c_Dirty), AV.int IntKind.i64 c_Sent, AV.bool c_Called, AV.bool c_Lost], AV.bool false], out := [], new := [] } = some (bufXS.out (bOut (bufXF (c_Mode, c_Until, c_Ver, c_Body, (c_Dirty_x, c_Dirty), c_Sent, c_Called, c_Lost) (w_Off, w_B)))) := fun hn => by
    unfold bufXF
    rw [if_neg (fun hh => hn (hO.1 hh))]
    rfl
  unfold bufX_r
  refine bK_i (fun c1 => no (by rw [List.length_map] at c1; omega)) (fun c1 => bK_n (fun c2 => no (by omega)) (fun c2 => ?_))
  refine oK_fsq (Q := fun z => z = _) mayRS (w_Off, w_B) trivial ?_
  refine bK_n (fun c3 => no (fun hh => c3 hh.2.2)) (fun c3 => ?_)
  have hlt : c_Dirty.length ≤ 4 := by rw [List.length_map] at c1; omega
  have hy : bufXF (c_Mode, c_Until, c_Ver, c_Body, (c_Dirty_x, c_Dirty), c_Sent, c_Called, c_Lost) (w_Off, w_B) = (addW (c_Mode, c_Until, c_Ver, c_Body, (c_Dirty_x, c_Dirty), c_Sent, c_Called, c_Lost) (w_Off, w_B), true) := by
    unfold bufXF
    rw [if_pos (hO.2 ⟨hlt, c2, c3⟩)]
  rw [hy]
  refine bK_tq (Q := fun z => z = _) (by simp [AV.cells, mkV, mkA, Tu.mk]) ?_
  refine bK_b (fun c4 => ?_) (fun c4 => ?_)
  · have : c_Dirty = [] := by simpa using c4
    subst this
    rfl
  · refine bK_tq (Q := fun z => z = _) (by simp [fit24 (show c_Dirty.length ≤ 1000000 by omega)]) (bK_tq (Q := fun z => z = _) (by simp) (bK_tq (Q := fun z => z = _) (by simp [fit24 (show c_Dirty.length + 1 ≤ 1000000 by omega)]) (bK_tq (Q := fun z => z = _) (by simp) ?_)))
    have e : List.take (0 + (List.map (mkV true Write_tfs) c_Dirty).length + 1) (List.drop 0 (List.take (0 + (List.map (mkV true Write_tfs) c_Dirty).length) ([] ++ List.map (mkV true Write_tfs) c_Dirty) ++ [AV.agg [AV.int IntKind.i64 w_Off, AV.str w_B]])) = (c_Dirty ++ [(w_Off, w_B)]).map (mkV true Write_tfs) := by
      simp [List.take_of_length_le]
      rfl
    rw [e]
    rfl
theorem bufX_ok : ∀ (d : Tu bufX_fs), bufXS.pre d → unitQ Try.prog cfg PKd LP0 false 24 (bufXS.args d) [] = some (bufXS.ret d)
  | (c_Mode, c_Until, c_Ver, c_Body, (c_Dirty_x, c_Dirty), c_Sent, c_Called, c_Lost, w_Off, w_B), h => (bufX_w c_Mode c_Until c_Ver c_Body c_Dirty_x c_Dirty c_Sent c_Called c_Lost w_Off w_B).trans (bufX_v c_Mode c_Until c_Ver c_Body c_Dirty_x c_Dirty c_Sent c_Called c_Lost w_Off w_B h)
noncomputable def PKv9 : PKs := PKd.add 24 bufXS.pk
theorem PKv9_ok : PKsOk Try.prog PKv9 := PKsOk.fs (cfg := cfg) PKd_ok (fnOk PKd_ok 21) 24 rfl LP0 fLoops_none bufXS bufX_ok

set_option maxHeartbeats 1000000 in
theorem buf_v (c_Mode : Int) (c_Until : Int) (c_Ver : Int) (c_Body : List UInt8) (c_Dirty_x : Bool) (c_Dirty : List Write_T) (c_Sent : Int) (c_Called : Bool) (c_Lost : Bool) (w_Off : Int) (w_B : List UInt8) (h : bufS.pre (c_Mode, c_Until, c_Ver, c_Body, (c_Dirty_x, c_Dirty), c_Sent, c_Called, c_Lost, w_Off, w_B)) : buf_r c_Mode c_Until c_Ver c_Body c_Dirty_x c_Dirty c_Sent c_Called c_Lost w_Off w_B = some (bufS.ret (c_Mode, c_Until, c_Ver, c_Body, (c_Dirty_x, c_Dirty), c_Sent, c_Called, c_Lost, w_Off, w_B)) := by
  have h' : c_Dirty.length ≤ 1000 := h
  have hl : c_Dirty.length ≤ 100000 := by omega
  have hO : bufOk (c_Mode, c_Until, c_Ver, c_Body, (c_Dirty_x, c_Dirty), c_Sent, c_Called, c_Lost) (w_Off, w_B) ↔ c_Dirty.length ≤ 4 ∧ c_Mode = 2 ∧ mayB (w_Off, w_B) := Iff.rfl
  show _ = some (bufS.out (bOut (bufCF (c_Mode, c_Until, c_Ver, c_Body, (c_Dirty_x, c_Dirty), c_Sent, c_Called, c_Lost) (w_Off, w_B))))
  have no : ¬ (c_Dirty.length ≤ 4 ∧ c_Mode = 2 ∧ mayB (w_Off, w_B)) → tw3 c_Dirty_x c_Dirty (fun v => some { pan := false, res := AV.tup [AV.agg [AV.int IntKind.i64 c_Mode, AV.int IntKind.i64 c_Until, AV.int IntKind.i64 c_Ver, AV.str c_Body, v, AV.int IntKind.i64 c_Sent, AV.bool c_Called, AV.bool c_Lost], AV.bool false], out := [], new := [] }) = some (bufS.out (bOut (bufCF (c_Mode, c_Until, c_Ver, c_Body, (c_Dirty_x, c_Dirty), c_Sent, c_Called, c_Lost) (w_Off, w_B)))) := fun hn => by
    rw [tw3_eq hl]
    unfold bufCF
    rw [if_neg (fun hh => hn (hO.1 hh))]
    rfl
  have yes : c_Dirty.length ≤ 4 → c_Mode = 2 → mayB (w_Off, w_B) → bufCF (c_Mode, c_Until, c_Ver, c_Body, (c_Dirty_x, c_Dirty), c_Sent, c_Called, c_Lost) (w_Off, w_B) = (addW (c_Mode, c_Until, c_Ver, c_Body, (c_Dirty_x, c_Dirty), c_Sent, c_Called, c_Lost) (w_Off, w_B), true) := fun c1 c2 c3 => by
    unfold bufCF
    rw [if_pos (hO.2 ⟨c1, c2, c3⟩)]
  have hc : (cloneF (c_Dirty_x, c_Dirty)).2 = c_Dirty := rfl
  unfold buf_r
  refine oK_fsq (Q := fun z => z = _) cloneS (c_Dirty_x, c_Dirty) hl ?_
  refine bK_b (fun c4 => ?_) (fun c4 => ?_)
  · refine bK_i (fun c1 => no (by rw [List.length_map] at c1; omega)) (fun c1 => bK_n (fun c2 => no (by omega)) (fun c2 => ?_))
    refine oK_fsq (Q := fun z => z = _) mayWS (w_Off, w_B) trivial ?_
    refine bK_n (fun c3 => no (fun hh => c3 hh.2.2)) (fun c3 => ?_)
    have e : c_Dirty = [] := by simpa [hc] using c4
    rw [yes (by rw [e]; simp) c2 c3, e]
    rfl
  · refine bK_i (fun c1 => no (by rw [List.length_map] at c1; omega)) (fun c1 => bK_n (fun c2 => no (by omega)) (fun c2 => ?_))
    refine oK_fsq (Q := fun z => z = _) mayWS (w_Off, w_B) trivial ?_
    refine bK_n (fun c3 => no (fun hh => c3 hh.2.2)) (fun c3 => ?_)
    have hlt : c_Dirty.length ≤ 4 := by rw [List.length_map] at c1; omega
    rw [yes hlt c2 c3]
    simp only [hc, List.length_map]
    refine bK_tq (Q := fun z => z = _) (by simp) (bK_tq (Q := fun z => z = _) (by simp [fit24 (show c_Dirty.length + 1 ≤ 1000000 by omega)]) (bK_tq (Q := fun z => z = _) (by simp) ?_))
    have e : List.take (c_Dirty.length + 1) (List.drop 0 (List.take c_Dirty.length (List.map (mkV true Write_tfs) c_Dirty) ++ [AV.agg [AV.int IntKind.i64 w_Off, AV.str w_B]])) = (c_Dirty ++ [(w_Off, w_B)]).map (mkV true Write_tfs) := by
      simp [List.take_of_length_le]
      rfl
    rw [e]
    rfl
theorem buf_ok : ∀ (d : Tu buf_fs), bufS.pre d → unitQ Try.prog cfg PKd LP0 false 23 (bufS.args d) [] = some (bufS.ret d)
  | (c_Mode, c_Until, c_Ver, c_Body, (c_Dirty_x, c_Dirty), c_Sent, c_Called, c_Lost, w_Off, w_B), h => (buf_w c_Mode c_Until c_Ver c_Body c_Dirty_x c_Dirty c_Sent c_Called c_Lost w_Off w_B).trans (buf_v c_Mode c_Until c_Ver c_Body c_Dirty_x c_Dirty c_Sent c_Called c_Lost w_Off w_B h)
noncomputable def PKv10 : PKs := PKd.add 23 bufS.pk
theorem PKv10_ok : PKsOk Try.prog PKv10 := PKsOk.fs (cfg := cfg) PKd_ok (fnOk PKd_ok 21) 23 rfl LP0 fLoops_none bufS buf_ok

end Go.Proofs.Ytlhnpfpdjlcakaa
