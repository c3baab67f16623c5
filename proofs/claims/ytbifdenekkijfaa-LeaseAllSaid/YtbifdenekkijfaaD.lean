/- A part of the proof: contracts of functions. -/
import Derived.Test.YtbifdenekkijfaaC
import Derived.Test.YtbifdenekkijfaaAbAny

set_option linter.unusedVariables false
set_option linter.unusedSimpArgs false
set_option maxRecDepth 100000
namespace Go.Proofs.Ytbifdenekkijfaa
open Go Go.Ab
noncomputable def D1 : PKs := PK0.add 10 leasS.pk
noncomputable def D2 : PKs := D1.add 23 pruneS.pk
noncomputable def D3 : PKs := D2.add 17 clashS.pk
noncomputable def D4 : PKs := D3.add 16 saS.pk
noncomputable def D5 : PKs := D4.add 11 holdsS.pk
noncomputable def D6 : PKs := D5.add 13 slS.pk
noncomputable def D7 : PKs := D6.add 19 mayS.pk
theorem D1_ok : PKsOk Try.prog D1 := PKsOk.anyM PK0_ok 10 leasS leasO
theorem D2_ok : PKsOk Try.prog D2 := PKsOk.anyF D1_ok 23 pruneS pruneO
theorem D3_ok : PKsOk Try.prog D3 := PKsOk.anyF D2_ok 17 clashS clashO
theorem D4_ok : PKsOk Try.prog D4 := PKsOk.anyF D3_ok 16 saS saO
theorem D5_ok : PKsOk Try.prog D5 := PKsOk.anyF D4_ok 11 holdsS holdsO
theorem D6_ok : PKsOk Try.prog D6 := PKsOk.anyF D5_ok 13 slS slO
theorem D7_ok : PKsOk Try.prog D7 := PKsOk.anyF D6_ok 19 mayS mayO
abbrev leaseOver_id : Nat := 6
abbrev leaseOver_sh : Shp := [none, none, none, none, none]
abbrev leaseOver_fs : List Lf := [.fl false [.fi .u8], .fi .u8, .fi .u8, .fi .u8, .fi .u8]
abbrev leaseOver_rsh : Shp := [none]
abbrev leaseOver_rfs : List Lf := [.fb]
noncomputable def leaseOver_r (picks_x : Bool) (picks : List Int) (now : Int) (later : Int) (client : Int) (f : Int) : Option Ret :=
  oK (begunS.dec [] []) fun (d0 : PUnit) =>
  bK (decide (40 < (↑(List.map (mkV false [Lf.fi IntKind.u8]) picks).length : Int))) (some { pan := false, res := AV.bool true, out := [], new := [] })
    (oK (leasS.dec [AV.ptr 1000000 0 0 0] [{ v := 0, k := BK.box, fz := false, sz := 0, es := [AV.slc picks_x (List.map (mkV false [Lf.fi IntKind.u8]) picks), AV.int IntKind.i64 0] }]) fun (d1 : ((Bool × List Int) × Int) × PUnit) =>
      oK (pruneS.dec [AV.slc (leaX true (numF d1.fst 8).snd) (List.map (mkV true Lease_tfs) (leaL [] (numF d1.fst 8).fst (numF d1.fst 8).snd)), AV.int IntKind.i64 (IntKind.i64.wrap now)] []) fun (d2 : (Bool × List (Int × Int × Int × Int)) × Int) =>
        oK (clashS.dec [AV.slc d2.fst.snd.isEmpty (List.map (mkV true Lease_tfs) (pruneQ d2.fst.snd d2.snd)), AV.int IntKind.i64 (IntKind.i64.wrap (IntKind.i64.wrap now + IntKind.i64.wrap later)), AV.int IntKind.i64 (IntKind.i64.wrap (1 + IntKind.i64.wrap (client.tmod 3))), AV.int IntKind.i64 (IntKind.i64.wrap (1 + IntKind.i64.wrap (f.tmod 3))), AV.int IntKind.i64 1] []) fun (d3 : (Bool × List (Int × Int × Int × Int)) × Int × Int × Int × Int) =>
          oK (clashS.dec [AV.slc (leaX true (numF d1.fst 8).snd) (List.map (mkV true Lease_tfs) (leaL [] (numF d1.fst 8).fst (numF d1.fst 8).snd)), AV.int IntKind.i64 (IntKind.i64.wrap (IntKind.i64.wrap now + IntKind.i64.wrap later)), AV.int IntKind.i64 (IntKind.i64.wrap (1 + IntKind.i64.wrap (client.tmod 3))), AV.int IntKind.i64 (IntKind.i64.wrap (1 + IntKind.i64.wrap (f.tmod 3))), AV.int IntKind.i64 1] []) fun (d4 : (Bool × List (Int × Int × Int × Int)) × Int × Int × Int × Int) =>
            oK (saS.dec [AV.slc (csF d3.fst.snd d3.snd.fst d3.snd.snd.fst d3.snd.snd.snd.fst d3.snd.snd.snd.snd).isEmpty (List.map (mkV false I1_tfs) (csF d3.fst.snd d3.snd.fst d3.snd.snd.fst d3.snd.snd.snd.fst d3.snd.snd.snd.snd)), AV.slc (csF d4.fst.snd d4.snd.fst d4.snd.snd.fst d4.snd.snd.snd.fst d4.snd.snd.snd.snd).isEmpty (List.map (mkV false I1_tfs) (csF d4.fst.snd d4.snd.fst d4.snd.snd.fst d4.snd.snd.snd.fst d4.snd.snd.snd.snd))] []) fun (d5 : (Bool × List Int) × Bool × List Int) =>
              bK (!saQ d5.fst.snd d5.snd.snd) (some { pan := false, res := AV.bool false, out := [], new := [] })
                (oK (clashS.dec [AV.slc d2.fst.snd.isEmpty (List.map (mkV true Lease_tfs) (pruneQ d2.fst.snd d2.snd)), AV.int IntKind.i64 (IntKind.i64.wrap (IntKind.i64.wrap now + IntKind.i64.wrap later)), AV.int IntKind.i64 (IntKind.i64.wrap (1 + IntKind.i64.wrap (client.tmod 3))), AV.int IntKind.i64 (IntKind.i64.wrap (1 + IntKind.i64.wrap (f.tmod 3))), AV.int IntKind.i64 2] []) fun (d6 : (Bool × List (Int × Int × Int × Int)) × Int × Int × Int × Int) =>
                  oK (clashS.dec [AV.slc (leaX true (numF d1.fst 8).snd) (List.map (mkV true Lease_tfs) (leaL [] (numF d1.fst 8).fst (numF d1.fst 8).snd)), AV.int IntKind.i64 (IntKind.i64.wrap (IntKind.i64.wrap now + IntKind.i64.wrap later)), AV.int IntKind.i64 (IntKind.i64.wrap (1 + IntKind.i64.wrap (client.tmod 3))), AV.int IntKind.i64 (IntKind.i64.wrap (1 + IntKind.i64.wrap (f.tmod 3))), AV.int IntKind.i64 2] []) fun (d7 : (Bool × List (Int × Int × Int × Int)) × Int × Int × Int × Int) =>
                    oK (saS.dec [AV.slc (csF d6.fst.snd d6.snd.fst d6.snd.snd.fst d6.snd.snd.snd.fst d6.snd.snd.snd.snd).isEmpty (List.map (mkV false I1_tfs) (csF d6.fst.snd d6.snd.fst d6.snd.snd.fst d6.snd.snd.snd.fst d6.snd.snd.snd.snd)), AV.slc (csF d7.fst.snd d7.snd.fst d7.snd.snd.fst d7.snd.snd.snd.fst d7.snd.snd.snd.snd).isEmpty (List.map (mkV false I1_tfs) (csF d7.fst.snd d7.snd.fst d7.snd.snd.fst d7.snd.snd.snd.fst d7.snd.snd.snd.snd))] []) fun (d8 : (Bool × List Int) × Bool × List Int) =>
                      bK (!saQ d8.fst.snd d8.snd.snd) (some { pan := false, res := AV.bool false, out := [], new := [] })
                        (oK (holdsS.dec [AV.slc d2.fst.snd.isEmpty (List.map (mkV true Lease_tfs) (pruneQ d2.fst.snd d2.snd)), AV.int IntKind.i64 (IntKind.i64.wrap (IntKind.i64.wrap now + IntKind.i64.wrap later)), AV.int IntKind.i64 (IntKind.i64.wrap (1 + IntKind.i64.wrap (client.tmod 3))), AV.int IntKind.i64 (IntKind.i64.wrap (1 + IntKind.i64.wrap (f.tmod 3)))] []) fun (d9 : (Bool × List (Int × Int × Int × Int)) × Int × Int × Int) =>
                          oK (holdsS.dec [AV.slc (leaX true (numF d1.fst 8).snd) (List.map (mkV true Lease_tfs) (leaL [] (numF d1.fst 8).fst (numF d1.fst 8).snd)), AV.int IntKind.i64 (IntKind.i64.wrap (IntKind.i64.wrap now + IntKind.i64.wrap later)), AV.int IntKind.i64 (IntKind.i64.wrap (1 + IntKind.i64.wrap (client.tmod 3))), AV.int IntKind.i64 (IntKind.i64.wrap (1 + IntKind.i64.wrap (f.tmod 3)))] []) fun (d10 : (Bool × List (Int × Int × Int × Int)) × Int × Int × Int) =>
                            bK (decide (holdQ d9.fst.snd d9.snd.fst d9.snd.snd.fst d9.snd.snd.snd = holdQ d10.fst.snd d10.snd.fst d10.snd.snd.fst d10.snd.snd.snd))
                              (bK (decide ((↑(List.map (mkV true Lease_tfs) (pruneQ d2.fst.snd d2.snd)).length : Int) ≤ (↑(List.map (mkV true Lease_tfs) (leaL [] (numF d1.fst 8).fst (numF d1.fst 8).snd)).length : Int))) (oK (pruneS.dec [AV.slc d2.fst.snd.isEmpty (List.map (mkV true Lease_tfs) (pruneQ d2.fst.snd d2.snd)), AV.int IntKind.i64 (IntKind.i64.wrap (IntKind.i64.wrap now + IntKind.i64.wrap later))] []) fun (d11 : (Bool × List (Int × Int × Int × Int)) × Int) => oK (pruneS.dec [AV.slc (leaX true (numF d1.fst 8).snd) (List.map (mkV true Lease_tfs) (leaL [] (numF d1.fst 8).fst (numF d1.fst 8).snd)), AV.int IntKind.i64 (IntKind.i64.wrap (IntKind.i64.wrap now + IntKind.i64.wrap later))] []) fun (d12 : (Bool × List (Int × Int × Int × Int)) × Int) => oK (slS.dec [AV.slc d11.fst.snd.isEmpty (List.map (mkV true Lease_tfs) (pruneQ d11.fst.snd d11.snd)), AV.slc d12.fst.snd.isEmpty (List.map (mkV true Lease_tfs) (pruneQ d12.fst.snd d12.snd))] []) fun (d13 : (Bool × List (Int × Int × Int × Int)) × Bool × List (Int × Int × Int × Int)) => bK (slQ d13.fst.snd d13.snd.snd) (oK (mayS.dec [AV.slc d2.fst.snd.isEmpty (List.map (mkV true Lease_tfs) (pruneQ d2.fst.snd d2.snd))] []) fun (d14 : Bool × List (Int × Int × Int × Int)) => some { pan := false, res := AV.bool (mayQ d14.snd), out := [], new := [] }) (some { pan := false, res := AV.bool false, out := [], new := [] })) (some { pan := false, res := AV.bool false, out := [], new := [] }))
                              (some { pan := false, res := AV.bool false, out := [], new := [] }))))
theorem leaseOver_w (picks_x : Bool) (picks : List Int) (now : Int) (later : Int) (client : Int) (f : Int) : unitQ Try.prog cfg D7 LP0 true 6 (groupA leaseOver_sh (Tu.mk leaseOver_fs ((picks_x, picks), now, later, client, f))) [] = leaseOver_r picks_x picks now later client f := by kernel_rfl

end Go.Proofs.Ytbifdenekkijfaa
