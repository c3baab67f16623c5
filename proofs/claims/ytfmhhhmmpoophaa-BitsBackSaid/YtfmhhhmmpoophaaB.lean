/- A part of the proof: contracts of functions. -/
import Derived.Test.YtfmhhhmmpoophaaX
import Derived.Test.YtfmhhhmmpoophaaAbCl

set_option linter.unusedVariables false
set_option linter.unusedSimpArgs false
set_option maxRecDepth 100000
namespace Go.Proofs.Ytfmhhhmmpoophaa
open Go Go.Ab
set_option maxHeartbeats 8000000
abbrev bitsBack_id : Nat := 4
abbrev bitsBack_sh : Shp := [none, none, none, none, none]
abbrev bitsBack_fs : List Lf := [.fi .u64, .fi .u8, .fs, .fl false [.fi .u8], .fi .u8]
abbrev bitsBack_rsh : Shp := [none]
abbrev bitsBack_rfs : List Lf := [.fb]
noncomputable def bitsBack_r (v : Int) (k : Int) (s : List UInt8) (behind_x : Bool) (behind : List Int) (cut : Int) : Option Ret :=
  oK (begunS.dec [] []) fun (d0 : PUnit) =>
  bK (decide (255 < (↑s.length : Int))) (some { pan := false, res := AV.bool true, out := [], new := [] })
    (bK (decide (20 < (↑(List.map (mkV false [Lf.fi IntKind.u8]) behind).length : Int))) (some { pan := false, res := AV.bool true, out := [], new := [] })
      (bK (decide (IntKind.i64.wrap (64 - IntKind.i64.wrap (8 * IntKind.i64.wrap (1 + IntKind.i64.wrap (k.tmod 7)))) < 0)) none
        (oK (putBS.dec [AV.slc true [], AV.int IntKind.i64 (IntKind.i64.wrap (v.fdiv (2 ^ min (IntKind.i64.wrap (64 - IntKind.i64.wrap (8 * IntKind.i64.wrap (1 + IntKind.i64.wrap (k.tmod 7))))).toNat 64))), AV.int IntKind.i64 (IntKind.i64.wrap (1 + IntKind.i64.wrap (k.tmod 7)))] []) fun (d1 : (Bool × List Int) × Int × Int) =>
          oK (textBS.dec [AV.slc true [], AV.str s] []) fun (d2 : (Bool × List Int) × List UInt8) =>
            bK (!decide ((↑(List.map (mkV false [Lf.fi IntKind.u8]) (putF d1).snd).length : Int) = IntKind.i64.wrap (1 + IntKind.i64.wrap (k.tmod 7)))) (some { pan := false, res := AV.bool false, out := [], new := [] })
              (bK (!decide ((↑(List.map (mkV false [Lf.fi IntKind.u8]) (textF d2).snd).length : Int) = IntKind.i64.wrap (1 + (↑s.length : Int)))) (some { pan := false, res := AV.bool false, out := [], new := [] })
                (bK ((List.map (mkV false [Lf.fi IntKind.u8]) (putF d1).snd).all fun (y : AV) => decide (y.cells.length = 1))
                  (bK (List.map (mkV false [Lf.fi IntKind.u8]) (putF d1).snd).isEmpty
                    (bK ((List.map (mkV false [Lf.fi IntKind.u8]) behind).all fun (y : AV) => decide (y.cells.length = 1))
                      (bK (List.map (mkV false [Lf.fi IntKind.u8]) behind).isEmpty
                        (oK (takeBS.dec [AV.slc false [], AV.int IntKind.i64 (IntKind.i64.wrap (1 + IntKind.i64.wrap (k.tmod 7)))] []) fun (d3 : (Bool × List Int) × Int) =>
                          bK ((List.map (mkV false [Lf.fi IntKind.u8]) (textF d2).snd).all fun (y : AV) => decide (y.cells.length = 1))
                            (bK (List.map (mkV false [Lf.fi IntKind.u8]) (textF d2).snd).isEmpty
                              (bK ((List.map (mkV false [Lf.fi IntKind.u8]) behind).all fun (y : AV) => decide (y.cells.length = 1))
                                (bK (List.map (mkV false [Lf.fi IntKind.u8]) behind).isEmpty
                                  (oK (takeTS.dec [AV.slc false []] []) fun (d4 : Bool × List Int) =>
                                    bK (decide (IntKind.i64.wrap (1 + IntKind.i64.wrap (k.tmod 7)) = 0)) none
                                      (bK ((List.map (mkV false [Lf.fi IntKind.u8]) (putF d1).snd).all fun (y : AV) => decide (y.cells.length = 1))
                                        (bK (decide (0 ≤ (IntKind.i64.wrap cut).tmod (IntKind.i64.wrap (1 + IntKind.i64.wrap (k.tmod 7)))))
                                          (bK (decide (0 ≤ ((IntKind.i64.wrap cut).tmod (IntKind.i64.wrap (1 + IntKind.i64.wrap (k.tmod 7)))).toNat ∧ ((IntKind.i64.wrap cut).tmod (IntKind.i64.wrap (1 + IntKind.i64.wrap (k.tmod 7)))).toNat ≤ (List.map (mkV false [Lf.fi IntKind.u8]) (putF d1).snd).length))
                                            (oK (takeBS.dec [AV.slc ((putF d1).fst && decide (((IntKind.i64.wrap cut).tmod (IntKind.i64.wrap (1 + IntKind.i64.wrap (k.tmod 7)))).toNat = (List.map (mkV false [Lf.fi IntKind.u8]) (putF d1).snd).length)) (List.take (((IntKind.i64.wrap cut).tmod (IntKind.i64.wrap (1 + IntKind.i64.wrap (k.tmod 7)))).toNat - 0) (List.drop 0 (List.map (mkV false [Lf.fi IntKind.u8]) (putF d1).snd))), AV.int IntKind.i64 (IntKind.i64.wrap (1 + IntKind.i64.wrap (k.tmod 7)))] []) fun (d5 : (Bool × List Int) × Int) =>
                                              bK (decide ((↑(List.map (mkV false [Lf.fi IntKind.u8]) (textF d2).snd).length : Int) = 0)) none
                                                (bK ((List.map (mkV false [Lf.fi IntKind.u8]) (textF d2).snd).all fun (y : AV) => decide (y.cells.length = 1))
                                                  (bK (decide (0 ≤ (IntKind.i64.wrap cut).tmod (↑(List.map (mkV false [Lf.fi IntKind.u8]) (textF d2).snd).length : Int)))
                                                    (bK (decide (0 ≤ ((IntKind.i64.wrap cut).tmod (↑(List.map (mkV false [Lf.fi IntKind.u8]) (textF d2).snd).length : Int)).toNat ∧ ((IntKind.i64.wrap cut).tmod (↑(List.map (mkV false [Lf.fi IntKind.u8]) (textF d2).snd).length : Int)).toNat ≤ (List.map (mkV false [Lf.fi IntKind.u8]) (textF d2).snd).length))
                                                      (oK (takeTS.dec [AV.slc ((textF d2).fst && decide (((IntKind.i64.wrap cut).tmod (↑(List.map (mkV false [Lf.fi IntKind.u8]) (textF d2).snd).length : Int)).toNat = (List.map (mkV false [Lf.fi IntKind.u8]) (textF d2).snd).length)) (List.take (((IntKind.i64.wrap cut).tmod (↑(List.map (mkV false [Lf.fi IntKind.u8]) (textF d2).snd).length : Int)).toNat - 0) (List.drop 0 (List.map (mkV false [Lf.fi IntKind.u8]) (textF d2).snd)))] []) fun (d6 : Bool × List Int) => bK (takeF d3).snd (bK (decide ((takeF d3).fst = IntKind.i64.wrap (v.fdiv (2 ^ min (IntKind.i64.wrap (64 - IntKind.i64.wrap (8 * IntKind.i64.wrap (1 + IntKind.i64.wrap (k.tmod 7))))).toNat 64)))) (bK (ttF d4).snd.snd (bK (decide ((ttF d4).fst = s)) (bK (decide ((ttF d4).snd.fst = (↑(List.map (mkV false [Lf.fi IntKind.u8]) (textF d2).snd).length : Int))) (bK (!(takeF d5).snd) (some { pan := false, res := AV.bool !(ttF d6).snd.snd, out := [], new := [] }) (some { pan := false, res := AV.bool false, out := [], new := [] })) (some { pan := false, res := AV.bool false, out := [], new := [] })) (some { pan := false, res := AV.bool false, out := [], new := [] })) (some { pan := false, res := AV.bool false, out := [], new := [] })) (some { pan := false, res := AV.bool false, out := [], new := [] })) (some { pan := false, res := AV.bool false, out := [], new := [] })) none)
                                                    none)
                                                  none))
                                            none)
                                          none)
                                        none))
                                  (bK (true && bytesFit Try.prog 5 (0 + (List.map (mkV false [Lf.fi IntKind.u8]) behind).length))
                                    (bK (decide (0 + (0 + (List.map (mkV false [Lf.fi IntKind.u8]) behind).length) ≤ ([] ++ List.map (mkV false [Lf.fi IntKind.u8]) behind).length))
                                      (oK (takeTS.dec [AV.slc false (List.take (0 + (List.map (mkV false [Lf.fi IntKind.u8]) behind).length) (List.drop 0 ([] ++ List.map (mkV false [Lf.fi IntKind.u8]) behind)))] []) fun (d7 : Bool × List Int) =>
                                        bK (decide (IntKind.i64.wrap (1 + IntKind.i64.wrap (k.tmod 7)) = 0)) none
                                          (bK ((List.map (mkV false [Lf.fi IntKind.u8]) (putF d1).snd).all fun (y : AV) => decide (y.cells.length = 1))
                                            (bK (decide (0 ≤ (IntKind.i64.wrap cut).tmod (IntKind.i64.wrap (1 + IntKind.i64.wrap (k.tmod 7)))))
                                              (bK (decide (0 ≤ ((IntKind.i64.wrap cut).tmod (IntKind.i64.wrap (1 + IntKind.i64.wrap (k.tmod 7)))).toNat ∧ ((IntKind.i64.wrap cut).tmod (IntKind.i64.wrap (1 + IntKind.i64.wrap (k.tmod 7)))).toNat ≤ (List.map (mkV false [Lf.fi IntKind.u8]) (putF d1).snd).length))
                                                (oK (takeBS.dec [AV.slc ((putF d1).fst && decide (((IntKind.i64.wrap cut).tmod (IntKind.i64.wrap (1 + IntKind.i64.wrap (k.tmod 7)))).toNat = (List.map (mkV false [Lf.fi IntKind.u8]) (putF d1).snd).length)) (List.take (((IntKind.i64.wrap cut).tmod (IntKind.i64.wrap (1 + IntKind.i64.wrap (k.tmod 7)))).toNat - 0) (List.drop 0 (List.map (mkV false [Lf.fi IntKind.u8]) (putF d1).snd))), AV.int IntKind.i64 (IntKind.i64.wrap (1 + IntKind.i64.wrap (k.tmod 7)))] []) fun (d8 : (Bool × List Int) × Int) =>
                                                  bK (decide ((↑(List.map (mkV false [Lf.fi IntKind.u8]) (textF d2).snd).length : Int) = 0)) none
                                                    (bK ((List.map (mkV false [Lf.fi IntKind.u8]) (textF d2).snd).all fun (y : AV) => decide (y.cells.length = 1))
                                                      (bK (decide (0 ≤ (IntKind.i64.wrap cut).tmod (↑(List.map (mkV false [Lf.fi IntKind.u8]) (textF d2).snd).length : Int)))
                                                        (bK (decide (0 ≤ ((IntKind.i64.wrap cut).tmod (↑(List.map (mkV false [Lf.fi IntKind.u8]) (textF d2).snd).length : Int)).toNat ∧ ((IntKind.i64.wrap cut).tmod (↑(List.map (mkV false [Lf.fi IntKind.u8]) (textF d2).snd).length : Int)).toNat ≤ (List.map (mkV false [Lf.fi IntKind.u8]) (textF d2).snd).length))
                                                          (oK (takeTS.dec [AV.slc ((textF d2).fst && decide (((IntKind.i64.wrap cut).tmod (↑(List.map (mkV false [Lf.fi IntKind.u8]) (textF d2).snd).length : Int)).toNat = (List.map (mkV false [Lf.fi IntKind.u8]) (textF d2).snd).length)) (List.take (((IntKind.i64.wrap cut).tmod (↑(List.map (mkV false [Lf.fi IntKind.u8]) (textF d2).snd).length : Int)).toNat - 0) (List.drop 0 (List.map (mkV false [Lf.fi IntKind.u8]) (textF d2).snd)))] []) fun (d9 : Bool × List Int) => bK (takeF d3).snd (bK (decide ((takeF d3).fst = IntKind.i64.wrap (v.fdiv (2 ^ min (IntKind.i64.wrap (64 - IntKind.i64.wrap (8 * IntKind.i64.wrap (1 + IntKind.i64.wrap (k.tmod 7))))).toNat 64)))) (bK (ttF d7).snd.snd (bK (decide ((ttF d7).fst = s)) (bK (decide ((ttF d7).snd.fst = (↑(List.map (mkV false [Lf.fi IntKind.u8]) (textF d2).snd).length : Int))) (bK (!(takeF d8).snd) (some { pan := false, res := AV.bool !(ttF d9).snd.snd, out := [], new := [] }) (some { pan := false, res := AV.bool false, out := [], new := [] })) (some { pan := false, res := AV.bool false, out := [], new := [] })) (some { pan := false, res := AV.bool false, out := [], new := [] })) (some { pan := false, res := AV.bool false, out := [], new := [] })) (some { pan := false, res := AV.bool false, out := [], new := [] })) (some { pan := false, res := AV.bool false, out := [], new := [] })) none)
                                                        none)
                                                      none))
                                                none)
                                              none)
                                            none))
                                      none)
                                    none))
                                none)
                              (bK (true && bytesFit Try.prog 5 (0 + (List.map (mkV false [Lf.fi IntKind.u8]) (textF d2).snd).length))
                                (bK ((List.map (mkV false [Lf.fi IntKind.u8]) behind).all fun (y : AV) => decide (y.cells.length = 1))
                                  (bK (decide (0 + (0 + (List.map (mkV false [Lf.fi IntKind.u8]) (textF d2).snd).length) ≤ ([] ++ List.map (mkV false [Lf.fi IntKind.u8]) (textF d2).snd).length))
                                    (bK (List.map (mkV false [Lf.fi IntKind.u8]) behind).isEmpty
                                      (bK (decide (0 + (0 + (List.map (mkV false [Lf.fi IntKind.u8]) (textF d2).snd).length) ≤ ([] ++ List.map (mkV false [Lf.fi IntKind.u8]) (textF d2).snd).length))
                                        (oK (takeTS.dec [AV.slc false (List.take (0 + (List.map (mkV false [Lf.fi IntKind.u8]) (textF d2).snd).length) (List.drop 0 ([] ++ List.map (mkV false [Lf.fi IntKind.u8]) (textF d2).snd)))] []) fun (d10 : Bool × List Int) =>
                                          bK (decide (IntKind.i64.wrap (1 + IntKind.i64.wrap (k.tmod 7)) = 0)) none
                                            (bK ((List.map (mkV false [Lf.fi IntKind.u8]) (putF d1).snd).all fun (y : AV) => decide (y.cells.length = 1))
                                              (bK (decide (0 ≤ (IntKind.i64.wrap cut).tmod (IntKind.i64.wrap (1 + IntKind.i64.wrap (k.tmod 7)))))
                                                (bK (decide (0 ≤ ((IntKind.i64.wrap cut).tmod (IntKind.i64.wrap (1 + IntKind.i64.wrap (k.tmod 7)))).toNat ∧ ((IntKind.i64.wrap cut).tmod (IntKind.i64.wrap (1 + IntKind.i64.wrap (k.tmod 7)))).toNat ≤ (List.map (mkV false [Lf.fi IntKind.u8]) (putF d1).snd).length))
                                                  (oK (takeBS.dec [AV.slc ((putF d1).fst && decide (((IntKind.i64.wrap cut).tmod (IntKind.i64.wrap (1 + IntKind.i64.wrap (k.tmod 7)))).toNat = (List.map (mkV false [Lf.fi IntKind.u8]) (putF d1).snd).length)) (List.take (((IntKind.i64.wrap cut).tmod (IntKind.i64.wrap (1 + IntKind.i64.wrap (k.tmod 7)))).toNat - 0) (List.drop 0 (List.map (mkV false [Lf.fi IntKind.u8]) (putF d1).snd))), AV.int IntKind.i64 (IntKind.i64.wrap (1 + IntKind.i64.wrap (k.tmod 7)))] []) fun (d11 : (Bool × List Int) × Int) =>
                                                    bK (decide ((↑(List.map (mkV false [Lf.fi IntKind.u8]) (textF d2).snd).length : Int) = 0)) none
                                                      (bK ((List.map (mkV false [Lf.fi IntKind.u8]) (textF d2).snd).all fun (y : AV) => decide (y.cells.length = 1))
                                                        (bK (decide (0 ≤ (IntKind.i64.wrap cut).tmod (↑(List.map (mkV false [Lf.fi IntKind.u8]) (textF d2).snd).length : Int)))
                                                          (bK (decide (0 ≤ ((IntKind.i64.wrap cut).tmod (↑(List.map (mkV false [Lf.fi IntKind.u8]) (textF d2).snd).length : Int)).toNat ∧ ((IntKind.i64.wrap cut).tmod (↑(List.map (mkV false [Lf.fi IntKind.u8]) (textF d2).snd).length : Int)).toNat ≤ (List.map (mkV false [Lf.fi IntKind.u8]) (textF d2).snd).length))
                                                            (oK (takeTS.dec [AV.slc ((textF d2).fst && decide (((IntKind.i64.wrap cut).tmod (↑(List.map (mkV false [Lf.fi IntKind.u8]) (textF d2).snd).length : Int)).toNat = (List.map (mkV false [Lf.fi IntKind.u8]) (textF d2).snd).length)) (List.take (((IntKind.i64.wrap cut).tmod (↑(List.map (mkV false [Lf.fi IntKind.u8]) (textF d2).snd).length : Int)).toNat - 0) (List.drop 0 (List.map (mkV false [Lf.fi IntKind.u8]) (textF d2).snd)))] []) fun (d12 : Bool × List Int) => bK (takeF d3).snd (bK (decide ((takeF d3).fst = IntKind.i64.wrap (v.fdiv (2 ^ min (IntKind.i64.wrap (64 - IntKind.i64.wrap (8 * IntKind.i64.wrap (1 + IntKind.i64.wrap (k.tmod 7))))).toNat 64)))) (bK (ttF d10).snd.snd (bK (decide ((ttF d10).fst = s)) (bK (decide ((ttF d10).snd.fst = (↑(List.map (mkV false [Lf.fi IntKind.u8]) (textF d2).snd).length : Int))) (bK (!(takeF d11).snd) (some { pan := false, res := AV.bool !(ttF d12).snd.snd, out := [], new := [] }) (some { pan := false, res := AV.bool false, out := [], new := [] })) (some { pan := false, res := AV.bool false, out := [], new := [] })) (some { pan := false, res := AV.bool false, out := [], new := [] })) (some { pan := false, res := AV.bool false, out := [], new := [] })) (some { pan := false, res := AV.bool false, out := [], new := [] })) (some { pan := false, res := AV.bool false, out := [], new := [] })) none)
                                                          none)
                                                        none))
                                                  none)
                                                none)
                                              none))
                                        none)
                                      (bK (decide (0 = 0 ∧ 0 + (List.map (mkV false [Lf.fi IntKind.u8]) (textF d2).snd).length = ([] ++ List.map (mkV false [Lf.fi IntKind.u8]) (textF d2).snd).length) && bytesFit Try.prog 5 (0 + (List.map (mkV false [Lf.fi IntKind.u8]) (textF d2).snd).length + (List.map (mkV false [Lf.fi IntKind.u8]) behind).length))
                                        (bK (decide (0 + (0 + (List.map (mkV false [Lf.fi IntKind.u8]) (textF d2).snd).length + (List.map (mkV false [Lf.fi IntKind.u8]) behind).length) ≤ (List.take (0 + (List.map (mkV false [Lf.fi IntKind.u8]) (textF d2).snd).length) ([] ++ List.map (mkV false [Lf.fi IntKind.u8]) (textF d2).snd) ++ List.map (mkV false [Lf.fi IntKind.u8]) behind).length))
                                          (oK (takeTS.dec [AV.slc false (List.take (0 + (List.map (mkV false [Lf.fi IntKind.u8]) (textF d2).snd).length + (List.map (mkV false [Lf.fi IntKind.u8]) behind).length) (List.drop 0 (List.take (0 + (List.map (mkV false [Lf.fi IntKind.u8]) (textF d2).snd).length) ([] ++ List.map (mkV false [Lf.fi IntKind.u8]) (textF d2).snd) ++ List.map (mkV false [Lf.fi IntKind.u8]) behind)))] []) fun (d13 : Bool × List Int) =>
                                            bK (decide (IntKind.i64.wrap (1 + IntKind.i64.wrap (k.tmod 7)) = 0)) none
                                              (bK ((List.map (mkV false [Lf.fi IntKind.u8]) (putF d1).snd).all fun (y : AV) => decide (y.cells.length = 1))
                                                (bK (decide (0 ≤ (IntKind.i64.wrap cut).tmod (IntKind.i64.wrap (1 + IntKind.i64.wrap (k.tmod 7)))))
                                                  (bK (decide (0 ≤ ((IntKind.i64.wrap cut).tmod (IntKind.i64.wrap (1 + IntKind.i64.wrap (k.tmod 7)))).toNat ∧ ((IntKind.i64.wrap cut).tmod (IntKind.i64.wrap (1 + IntKind.i64.wrap (k.tmod 7)))).toNat ≤ (List.map (mkV false [Lf.fi IntKind.u8]) (putF d1).snd).length))
                                                    (oK (takeBS.dec [AV.slc ((putF d1).fst && decide (((IntKind.i64.wrap cut).tmod (IntKind.i64.wrap (1 + IntKind.i64.wrap (k.tmod 7)))).toNat = (List.map (mkV false [Lf.fi IntKind.u8]) (putF d1).snd).length)) (List.take (((IntKind.i64.wrap cut).tmod (IntKind.i64.wrap (1 + IntKind.i64.wrap (k.tmod 7)))).toNat - 0) (List.drop 0 (List.map (mkV false [Lf.fi IntKind.u8]) (putF d1).snd))), AV.int IntKind.i64 (IntKind.i64.wrap (1 + IntKind.i64.wrap (k.tmod 7)))] []) fun (d14 : (Bool × List Int) × Int) =>
                                                      bK (decide ((↑(List.map (mkV false [Lf.fi IntKind.u8]) (textF d2).snd).length : Int) = 0)) none
                                                        (bK ((List.map (mkV false [Lf.fi IntKind.u8]) (textF d2).snd).all fun (y : AV) => decide (y.cells.length = 1))
                                                          (bK (decide (0 ≤ (IntKind.i64.wrap cut).tmod (↑(List.map (mkV false [Lf.fi IntKind.u8]) (textF d2).snd).length : Int)))
                                                            (bK (decide (0 ≤ ((IntKind.i64.wrap cut).tmod (↑(List.map (mkV false [Lf.fi IntKind.u8]) (textF d2).snd).length : Int)).toNat ∧ ((IntKind.i64.wrap cut).tmod (↑(List.map (mkV false [Lf.fi IntKind.u8]) (textF d2).snd).length : Int)).toNat ≤ (List.map (mkV false [Lf.fi IntKind.u8]) (textF d2).snd).length))
                                                              (oK (takeTS.dec [AV.slc ((textF d2).fst && decide (((IntKind.i64.wrap cut).tmod (↑(List.map (mkV false [Lf.fi IntKind.u8]) (textF d2).snd).length : Int)).toNat = (List.map (mkV false [Lf.fi IntKind.u8]) (textF d2).snd).length)) (List.take (((IntKind.i64.wrap cut).tmod (↑(List.map (mkV false [Lf.fi IntKind.u8]) (textF d2).snd).length : Int)).toNat - 0) (List.drop 0 (List.map (mkV false [Lf.fi IntKind.u8]) (textF d2).snd)))] []) fun (d15 : Bool × List Int) => bK (takeF d3).snd (bK (decide ((takeF d3).fst = IntKind.i64.wrap (v.fdiv (2 ^ min (IntKind.i64.wrap (64 - IntKind.i64.wrap (8 * IntKind.i64.wrap (1 + IntKind.i64.wrap (k.tmod 7))))).toNat 64)))) (bK (ttF d13).snd.snd (bK (decide ((ttF d13).fst = s)) (bK (decide ((ttF d13).snd.fst = (↑(List.map (mkV false [Lf.fi IntKind.u8]) (textF d2).snd).length : Int))) (bK (!(takeF d14).snd) (some { pan := false, res := AV.bool !(ttF d15).snd.snd, out := [], new := [] }) (some { pan := false, res := AV.bool false, out := [], new := [] })) (some { pan := false, res := AV.bool false, out := [], new := [] })) (some { pan := false, res := AV.bool false, out := [], new := [] })) (some { pan := false, res := AV.bool false, out := [], new := [] })) (some { pan := false, res := AV.bool false, out := [], new := [] })) (some { pan := false, res := AV.bool false, out := [], new := [] })) none)
                                                            none)
                                                          none))
                                                    none)
                                                  none)
                                                none))
                                          none)
                                        none))
                                    none)
                                  none)
                                none))
                            none)
                        (bK (true && bytesFit Try.prog 5 (0 + (List.map (mkV false [Lf.fi IntKind.u8]) behind).length))
                          (bK (decide (0 + (0 + (List.map (mkV false [Lf.fi IntKind.u8]) behind).length) ≤ ([] ++ List.map (mkV false [Lf.fi IntKind.u8]) behind).length))
                            (oK (takeBS.dec [AV.slc false (List.take (0 + (List.map (mkV false [Lf.fi IntKind.u8]) behind).length) (List.drop 0 ([] ++ List.map (mkV false [Lf.fi IntKind.u8]) behind))), AV.int IntKind.i64 (IntKind.i64.wrap (1 + IntKind.i64.wrap (k.tmod 7)))] []) fun (d16 : (Bool × List Int) × Int) =>
                              bK ((List.map (mkV false [Lf.fi IntKind.u8]) (textF d2).snd).all fun (y : AV) => decide (y.cells.length = 1))
                                (bK (List.map (mkV false [Lf.fi IntKind.u8]) (textF d2).snd).isEmpty
                                  (bK ((List.map (mkV false [Lf.fi IntKind.u8]) behind).all fun (y : AV) => decide (y.cells.length = 1))
                                    (bK (List.map (mkV false [Lf.fi IntKind.u8]) behind).isEmpty
                                      (oK (takeTS.dec [AV.slc false []] []) fun (d17 : Bool × List Int) =>
                                        bK (decide (IntKind.i64.wrap (1 + IntKind.i64.wrap (k.tmod 7)) = 0)) none
                                          (bK ((List.map (mkV false [Lf.fi IntKind.u8]) (putF d1).snd).all fun (y : AV) => decide (y.cells.length = 1))
                                            (bK (decide (0 ≤ (IntKind.i64.wrap cut).tmod (IntKind.i64.wrap (1 + IntKind.i64.wrap (k.tmod 7)))))
                                              (bK (decide (0 ≤ ((IntKind.i64.wrap cut).tmod (IntKind.i64.wrap (1 + IntKind.i64.wrap (k.tmod 7)))).toNat ∧ ((IntKind.i64.wrap cut).tmod (IntKind.i64.wrap (1 + IntKind.i64.wrap (k.tmod 7)))).toNat ≤ (List.map (mkV false [Lf.fi IntKind.u8]) (putF d1).snd).length))
                                                (oK (takeBS.dec [AV.slc ((putF d1).fst && decide (((IntKind.i64.wrap cut).tmod (IntKind.i64.wrap (1 + IntKind.i64.wrap (k.tmod 7)))).toNat = (List.map (mkV false [Lf.fi IntKind.u8]) (putF d1).snd).length)) (List.take (((IntKind.i64.wrap cut).tmod (IntKind.i64.wrap (1 + IntKind.i64.wrap (k.tmod 7)))).toNat - 0) (List.drop 0 (List.map (mkV false [Lf.fi IntKind.u8]) (putF d1).snd))), AV.int IntKind.i64 (IntKind.i64.wrap (1 + IntKind.i64.wrap (k.tmod 7)))] []) fun (d18 : (Bool × List Int) × Int) =>
                                                  bK (decide ((↑(List.map (mkV false [Lf.fi IntKind.u8]) (textF d2).snd).length : Int) = 0)) none
                                                    (bK ((List.map (mkV false [Lf.fi IntKind.u8]) (textF d2).snd).all fun (y : AV) => decide (y.cells.length = 1))
                                                      (bK (decide (0 ≤ (IntKind.i64.wrap cut).tmod (↑(List.map (mkV false [Lf.fi IntKind.u8]) (textF d2).snd).length : Int)))
                                                        (bK (decide (0 ≤ ((IntKind.i64.wrap cut).tmod (↑(List.map (mkV false [Lf.fi IntKind.u8]) (textF d2).snd).length : Int)).toNat ∧ ((IntKind.i64.wrap cut).tmod (↑(List.map (mkV false [Lf.fi IntKind.u8]) (textF d2).snd).length : Int)).toNat ≤ (List.map (mkV false [Lf.fi IntKind.u8]) (textF d2).snd).length))
                                                          (oK (takeTS.dec [AV.slc ((textF d2).fst && decide (((IntKind.i64.wrap cut).tmod (↑(List.map (mkV false [Lf.fi IntKind.u8]) (textF d2).snd).length : Int)).toNat = (List.map (mkV false [Lf.fi IntKind.u8]) (textF d2).snd).length)) (List.take (((IntKind.i64.wrap cut).tmod (↑(List.map (mkV false [Lf.fi IntKind.u8]) (textF d2).snd).length : Int)).toNat - 0) (List.drop 0 (List.map (mkV false [Lf.fi IntKind.u8]) (textF d2).snd)))] []) fun (d19 : Bool × List Int) => bK (takeF d16).snd (bK (decide ((takeF d16).fst = IntKind.i64.wrap (v.fdiv (2 ^ min (IntKind.i64.wrap (64 - IntKind.i64.wrap (8 * IntKind.i64.wrap (1 + IntKind.i64.wrap (k.tmod 7))))).toNat 64)))) (bK (ttF d17).snd.snd (bK (decide ((ttF d17).fst = s)) (bK (decide ((ttF d17).snd.fst = (↑(List.map (mkV false [Lf.fi IntKind.u8]) (textF d2).snd).length : Int))) (bK (!(takeF d18).snd) (some { pan := false, res := AV.bool !(ttF d19).snd.snd, out := [], new := [] }) (some { pan := false, res := AV.bool false, out := [], new := [] })) (some { pan := false, res := AV.bool false, out := [], new := [] })) (some { pan := false, res := AV.bool false, out := [], new := [] })) (some { pan := false, res := AV.bool false, out := [], new := [] })) (some { pan := false, res := AV.bool false, out := [], new := [] })) (some { pan := false, res := AV.bool false, out := [], new := [] })) none)
                                                        none)
                                                      none))
                                                none)
                                              none)
                                            none))
                                      (bK (true && bytesFit Try.prog 5 (0 + (List.map (mkV false [Lf.fi IntKind.u8]) behind).length))
                                        (bK (decide (0 + (0 + (List.map (mkV false [Lf.fi IntKind.u8]) behind).length) ≤ ([] ++ List.map (mkV false [Lf.fi IntKind.u8]) behind).length))
                                          (oK (takeTS.dec [AV.slc false (List.take (0 + (List.map (mkV false [Lf.fi IntKind.u8]) behind).length) (List.drop 0 ([] ++ List.map (mkV false [Lf.fi IntKind.u8]) behind)))] []) fun (d20 : Bool × List Int) =>
                                            bK (decide (IntKind.i64.wrap (1 + IntKind.i64.wrap (k.tmod 7)) = 0)) none
                                              (bK ((List.map (mkV false [Lf.fi IntKind.u8]) (putF d1).snd).all fun (y : AV) => decide (y.cells.length = 1))
                                                (bK (decide (0 ≤ (IntKind.i64.wrap cut).tmod (IntKind.i64.wrap (1 + IntKind.i64.wrap (k.tmod 7)))))
                                                  (bK (decide (0 ≤ ((IntKind.i64.wrap cut).tmod (IntKind.i64.wrap (1 + IntKind.i64.wrap (k.tmod 7)))).toNat ∧ ((IntKind.i64.wrap cut).tmod (IntKind.i64.wrap (1 + IntKind.i64.wrap (k.tmod 7)))).toNat ≤ (List.map (mkV false [Lf.fi IntKind.u8]) (putF d1).snd).length))
                                                    (oK (takeBS.dec [AV.slc ((putF d1).fst && decide (((IntKind.i64.wrap cut).tmod (IntKind.i64.wrap (1 + IntKind.i64.wrap (k.tmod 7)))).toNat = (List.map (mkV false [Lf.fi IntKind.u8]) (putF d1).snd).length)) (List.take (((IntKind.i64.wrap cut).tmod (IntKind.i64.wrap (1 + IntKind.i64.wrap (k.tmod 7)))).toNat - 0) (List.drop 0 (List.map (mkV false [Lf.fi IntKind.u8]) (putF d1).snd))), AV.int IntKind.i64 (IntKind.i64.wrap (1 + IntKind.i64.wrap (k.tmod 7)))] []) fun (d21 : (Bool × List Int) × Int) =>
                                                      bK (decide ((↑(List.map (mkV false [Lf.fi IntKind.u8]) (textF d2).snd).length : Int) = 0)) none
                                                        (bK ((List.map (mkV false [Lf.fi IntKind.u8]) (textF d2).snd).all fun (y : AV) => decide (y.cells.length = 1))
                                                          (bK (decide (0 ≤ (IntKind.i64.wrap cut).tmod (↑(List.map (mkV false [Lf.fi IntKind.u8]) (textF d2).snd).length : Int)))
                                                            (bK (decide (0 ≤ ((IntKind.i64.wrap cut).tmod (↑(List.map (mkV false [Lf.fi IntKind.u8]) (textF d2).snd).length : Int)).toNat ∧ ((IntKind.i64.wrap cut).tmod (↑(List.map (mkV false [Lf.fi IntKind.u8]) (textF d2).snd).length : Int)).toNat ≤ (List.map (mkV false [Lf.fi IntKind.u8]) (textF d2).snd).length))
                                                              (oK (takeTS.dec [AV.slc ((textF d2).fst && decide (((IntKind.i64.wrap cut).tmod (↑(List.map (mkV false [Lf.fi IntKind.u8]) (textF d2).snd).length : Int)).toNat = (List.map (mkV false [Lf.fi IntKind.u8]) (textF d2).snd).length)) (List.take (((IntKind.i64.wrap cut).tmod (↑(List.map (mkV false [Lf.fi IntKind.u8]) (textF d2).snd).length : Int)).toNat - 0) (List.drop 0 (List.map (mkV false [Lf.fi IntKind.u8]) (textF d2).snd)))] []) fun (d22 : Bool × List Int) => bK (takeF d16).snd (bK (decide ((takeF d16).fst = IntKind.i64.wrap (v.fdiv (2 ^ min (IntKind.i64.wrap (64 - IntKind.i64.wrap (8 * IntKind.i64.wrap (1 + IntKind.i64.wrap (k.tmod 7))))).toNat 64)))) (bK (ttF d20).snd.snd (bK (decide ((ttF d20).fst = s)) (bK (decide ((ttF d20).snd.fst = (↑(List.map (mkV false [Lf.fi IntKind.u8]) (textF d2).snd).length : Int))) (bK (!(takeF d21).snd) (some { pan := false, res := AV.bool !(ttF d22).snd.snd, out := [], new := [] }) (some { pan := false, res := AV.bool false, out := [], new := [] })) (some { pan := false, res := AV.bool false, out := [], new := [] })) (some { pan := false, res := AV.bool false, out := [], new := [] })) (some { pan := false, res := AV.bool false, out := [], new := [] })) (some { pan := false, res := AV.bool false, out := [], new := [] })) (some { pan := false, res := AV.bool false, out := [], new := [] })) none)
                                                            none)
                                                          none))
                                                    none)
                                                  none)
                                                none))
                                          none)
                                        none))
                                    none)
                                  (bK (true && bytesFit Try.prog 5 (0 + (List.map (mkV false [Lf.fi IntKind.u8]) (textF d2).snd).length))
                                    (bK ((List.map (mkV false [Lf.fi IntKind.u8]) behind).all fun (y : AV) => decide (y.cells.length = 1))
                                      (bK (decide (0 + (0 + (List.map (mkV false [Lf.fi IntKind.u8]) (textF d2).snd).length) ≤ ([] ++ List.map (mkV false [Lf.fi IntKind.u8]) (textF d2).snd).length))
                                        (bK (List.map (mkV false [Lf.fi IntKind.u8]) behind).isEmpty
                                          (bK (decide (0 + (0 + (List.map (mkV false [Lf.fi IntKind.u8]) (textF d2).snd).length) ≤ ([] ++ List.map (mkV false [Lf.fi IntKind.u8]) (textF d2).snd).length))
                                            (oK (takeTS.dec [AV.slc false (List.take (0 + (List.map (mkV false [Lf.fi IntKind.u8]) (textF d2).snd).length) (List.drop 0 ([] ++ List.map (mkV false [Lf.fi IntKind.u8]) (textF d2).snd)))] []) fun (d23 : Bool × List Int) =>
                                              bK (decide (IntKind.i64.wrap (1 + IntKind.i64.wrap (k.tmod 7)) = 0)) none
                                                (bK ((List.map (mkV false [Lf.fi IntKind.u8]) (putF d1).snd).all fun (y : AV) => decide (y.cells.length = 1))
                                                  (bK (decide (0 ≤ (IntKind.i64.wrap cut).tmod (IntKind.i64.wrap (1 + IntKind.i64.wrap (k.tmod 7)))))
                                                    (bK (decide (0 ≤ ((IntKind.i64.wrap cut).tmod (IntKind.i64.wrap (1 + IntKind.i64.wrap (k.tmod 7)))).toNat ∧ ((IntKind.i64.wrap cut).tmod (IntKind.i64.wrap (1 + IntKind.i64.wrap (k.tmod 7)))).toNat ≤ (List.map (mkV false [Lf.fi IntKind.u8]) (putF d1).snd).length))
                                                      (oK (takeBS.dec [AV.slc ((putF d1).fst && decide (((IntKind.i64.wrap cut).tmod (IntKind.i64.wrap (1 + IntKind.i64.wrap (k.tmod 7)))).toNat = (List.map (mkV false [Lf.fi IntKind.u8]) (putF d1).snd).length)) (List.take (((IntKind.i64.wrap cut).tmod (IntKind.i64.wrap (1 + IntKind.i64.wrap (k.tmod 7)))).toNat - 0) (List.drop 0 (List.map (mkV false [Lf.fi IntKind.u8]) (putF d1).snd))), AV.int IntKind.i64 (IntKind.i64.wrap (1 + IntKind.i64.wrap (k.tmod 7)))] []) fun (d24 : (Bool × List Int) × Int) =>
                                                        bK (decide ((↑(List.map (mkV false [Lf.fi IntKind.u8]) (textF d2).snd).length : Int) = 0)) none
                                                          (bK ((List.map (mkV false [Lf.fi IntKind.u8]) (textF d2).snd).all fun (y : AV) => decide (y.cells.length = 1))
                                                            (bK (decide (0 ≤ (IntKind.i64.wrap cut).tmod (↑(List.map (mkV false [Lf.fi IntKind.u8]) (textF d2).snd).length : Int)))
                                                              (bK (decide (0 ≤ ((IntKind.i64.wrap cut).tmod (↑(List.map (mkV false [Lf.fi IntKind.u8]) (textF d2).snd).length : Int)).toNat ∧ ((IntKind.i64.wrap cut).tmod (↑(List.map (mkV false [Lf.fi IntKind.u8]) (textF d2).snd).length : Int)).toNat ≤ (List.map (mkV false [Lf.fi IntKind.u8]) (textF d2).snd).length))
                                                                (oK (takeTS.dec [AV.slc ((textF d2).fst && decide (((IntKind.i64.wrap cut).tmod (↑(List.map (mkV false [Lf.fi IntKind.u8]) (textF d2).snd).length : Int)).toNat = (List.map (mkV false [Lf.fi IntKind.u8]) (textF d2).snd).length)) (List.take (((IntKind.i64.wrap cut).tmod (↑(List.map (mkV false [Lf.fi IntKind.u8]) (textF d2).snd).length : Int)).toNat - 0) (List.drop 0 (List.map (mkV false [Lf.fi IntKind.u8]) (textF d2).snd)))] []) fun (d25 : Bool × List Int) => bK (takeF d16).snd (bK (decide ((takeF d16).fst = IntKind.i64.wrap (v.fdiv (2 ^ min (IntKind.i64.wrap (64 - IntKind.i64.wrap (8 * IntKind.i64.wrap (1 + IntKind.i64.wrap (k.tmod 7))))).toNat 64)))) (bK (ttF d23).snd.snd (bK (decide ((ttF d23).fst = s)) (bK (decide ((ttF d23).snd.fst = (↑(List.map (mkV false [Lf.fi IntKind.u8]) (textF d2).snd).length : Int))) (bK (!(takeF d24).snd) (some { pan := false, res := AV.bool !(ttF d25).snd.snd, out := [], new := [] }) (some { pan := false, res := AV.bool false, out := [], new := [] })) (some { pan := false, res := AV.bool false, out := [], new := [] })) (some { pan := false, res := AV.bool false, out := [], new := [] })) (some { pan := false, res := AV.bool false, out := [], new := [] })) (some { pan := false, res := AV.bool false, out := [], new := [] })) (some { pan := false, res := AV.bool false, out := [], new := [] })) none)
                                                              none)
                                                            none))
                                                      none)
                                                    none)
                                                  none))
                                            none)
                                          (bK (decide (0 = 0 ∧ 0 + (List.map (mkV false [Lf.fi IntKind.u8]) (textF d2).snd).length = ([] ++ List.map (mkV false [Lf.fi IntKind.u8]) (textF d2).snd).length) && bytesFit Try.prog 5 (0 + (List.map (mkV false [Lf.fi IntKind.u8]) (textF d2).snd).length + (List.map (mkV false [Lf.fi IntKind.u8]) behind).length))
                                            (bK (decide (0 + (0 + (List.map (mkV false [Lf.fi IntKind.u8]) (textF d2).snd).length + (List.map (mkV false [Lf.fi IntKind.u8]) behind).length) ≤ (List.take (0 + (List.map (mkV false [Lf.fi IntKind.u8]) (textF d2).snd).length) ([] ++ List.map (mkV false [Lf.fi IntKind.u8]) (textF d2).snd) ++ List.map (mkV false [Lf.fi IntKind.u8]) behind).length))
                                              (oK (takeTS.dec [AV.slc false (List.take (0 + (List.map (mkV false [Lf.fi IntKind.u8]) (textF d2).snd).length + (List.map (mkV false [Lf.fi IntKind.u8]) behind).length) (List.drop 0 (List.take (0 + (List.map (mkV false [Lf.fi IntKind.u8]) (textF d2).snd).length) ([] ++ List.map (mkV false [Lf.fi IntKind.u8]) (textF d2).snd) ++ List.map (mkV false [Lf.fi IntKind.u8]) behind)))] []) fun (d26 : Bool × List Int) =>
                                                bK (decide (IntKind.i64.wrap (1 + IntKind.i64.wrap (k.tmod 7)) = 0)) none
                                                  (bK ((List.map (mkV false [Lf.fi IntKind.u8]) (putF d1).snd).all fun (y : AV) => decide (y.cells.length = 1))
                                                    (bK (decide (0 ≤ (IntKind.i64.wrap cut).tmod (IntKind.i64.wrap (1 + IntKind.i64.wrap (k.tmod 7)))))
                                                      (bK (decide (0 ≤ ((IntKind.i64.wrap cut).tmod (IntKind.i64.wrap (1 + IntKind.i64.wrap (k.tmod 7)))).toNat ∧ ((IntKind.i64.wrap cut).tmod (IntKind.i64.wrap (1 + IntKind.i64.wrap (k.tmod 7)))).toNat ≤ (List.map (mkV false [Lf.fi IntKind.u8]) (putF d1).snd).length))
                                                        (oK (takeBS.dec [AV.slc ((putF d1).fst && decide (((IntKind.i64.wrap cut).tmod (IntKind.i64.wrap (1 + IntKind.i64.wrap (k.tmod 7)))).toNat = (List.map (mkV false [Lf.fi IntKind.u8]) (putF d1).snd).length)) (List.take (((IntKind.i64.wrap cut).tmod (IntKind.i64.wrap (1 + IntKind.i64.wrap (k.tmod 7)))).toNat - 0) (List.drop 0 (List.map (mkV false [Lf.fi IntKind.u8]) (putF d1).snd))), AV.int IntKind.i64 (IntKind.i64.wrap (1 + IntKind.i64.wrap (k.tmod 7)))] []) fun (d27 : (Bool × List Int) × Int) =>
                                                          bK (decide ((↑(List.map (mkV false [Lf.fi IntKind.u8]) (textF d2).snd).length : Int) = 0)) none
                                                            (bK ((List.map (mkV false [Lf.fi IntKind.u8]) (textF d2).snd).all fun (y : AV) => decide (y.cells.length = 1))
                                                              (bK (decide (0 ≤ (IntKind.i64.wrap cut).tmod (↑(List.map (mkV false [Lf.fi IntKind.u8]) (textF d2).snd).length : Int)))
                                                                (bK (decide (0 ≤ ((IntKind.i64.wrap cut).tmod (↑(List.map (mkV false [Lf.fi IntKind.u8]) (textF d2).snd).length : Int)).toNat ∧ ((IntKind.i64.wrap cut).tmod (↑(List.map (mkV false [Lf.fi IntKind.u8]) (textF d2).snd).length : Int)).toNat ≤ (List.map (mkV false [Lf.fi IntKind.u8]) (textF d2).snd).length))
                                                                  (oK (takeTS.dec [AV.slc ((textF d2).fst && decide (((IntKind.i64.wrap cut).tmod (↑(List.map (mkV false [Lf.fi IntKind.u8]) (textF d2).snd).length : Int)).toNat = (List.map (mkV false [Lf.fi IntKind.u8]) (textF d2).snd).length)) (List.take (((IntKind.i64.wrap cut).tmod (↑(List.map (mkV false [Lf.fi IntKind.u8]) (textF d2).snd).length : Int)).toNat - 0) (List.drop 0 (List.map (mkV false [Lf.fi IntKind.u8]) (textF d2).snd)))] []) fun (d28 : Bool × List Int) => bK (takeF d16).snd (bK (decide ((takeF d16).fst = IntKind.i64.wrap (v.fdiv (2 ^ min (IntKind.i64.wrap (64 - IntKind.i64.wrap (8 * IntKind.i64.wrap (1 + IntKind.i64.wrap (k.tmod 7))))).toNat 64)))) (bK (ttF d26).snd.snd (bK (decide ((ttF d26).fst = s)) (bK (decide ((ttF d26).snd.fst = (↑(List.map (mkV false [Lf.fi IntKind.u8]) (textF d2).snd).length : Int))) (bK (!(takeF d27).snd) (some { pan := false, res := AV.bool !(ttF d28).snd.snd, out := [], new := [] }) (some { pan := false, res := AV.bool false, out := [], new := [] })) (some { pan := false, res := AV.bool false, out := [], new := [] })) (some { pan := false, res := AV.bool false, out := [], new := [] })) (some { pan := false, res := AV.bool false, out := [], new := [] })) (some { pan := false, res := AV.bool false, out := [], new := [] })) (some { pan := false, res := AV.bool false, out := [], new := [] })) none)
                                                                none)
                                                              none))
                                                        none)
                                                      none)
                                                    none))
                                              none)
                                            none))
                                        none)
                                      none)
                                    none))
                                none)
                            none)
                          none))
                      none)
                    (bK (true && bytesFit Try.prog 5 (0 + (List.map (mkV false [Lf.fi IntKind.u8]) (putF d1).snd).length))
                      (bK ((List.map (mkV false [Lf.fi IntKind.u8]) behind).all fun (y : AV) => decide (y.cells.length = 1))
                        (bK (decide (0 + (0 + (List.map (mkV false [Lf.fi IntKind.u8]) (putF d1).snd).length) ≤ ([] ++ List.map (mkV false [Lf.fi IntKind.u8]) (putF d1).snd).length))
                          (bK (List.map (mkV false [Lf.fi IntKind.u8]) behind).isEmpty
                            (bK (decide (0 + (0 + (List.map (mkV false [Lf.fi IntKind.u8]) (putF d1).snd).length) ≤ ([] ++ List.map (mkV false [Lf.fi IntKind.u8]) (putF d1).snd).length))
                              (oK (takeBS.dec [AV.slc false (List.take (0 + (List.map (mkV false [Lf.fi IntKind.u8]) (putF d1).snd).length) (List.drop 0 ([] ++ List.map (mkV false [Lf.fi IntKind.u8]) (putF d1).snd))), AV.int IntKind.i64 (IntKind.i64.wrap (1 + IntKind.i64.wrap (k.tmod 7)))] []) fun (d29 : (Bool × List Int) × Int) =>
                                bK ((List.map (mkV false [Lf.fi IntKind.u8]) (textF d2).snd).all fun (y : AV) => decide (y.cells.length = 1))
                                  (bK (List.map (mkV false [Lf.fi IntKind.u8]) (textF d2).snd).isEmpty
                                    (bK ((List.map (mkV false [Lf.fi IntKind.u8]) behind).all fun (y : AV) => decide (y.cells.length = 1))
                                      (bK (List.map (mkV false [Lf.fi IntKind.u8]) behind).isEmpty
                                        (oK (takeTS.dec [AV.slc false []] []) fun (d30 : Bool × List Int) =>
                                          bK (decide (IntKind.i64.wrap (1 + IntKind.i64.wrap (k.tmod 7)) = 0)) none
                                            (bK ((List.map (mkV false [Lf.fi IntKind.u8]) (putF d1).snd).all fun (y : AV) => decide (y.cells.length = 1))
                                              (bK (decide (0 ≤ (IntKind.i64.wrap cut).tmod (IntKind.i64.wrap (1 + IntKind.i64.wrap (k.tmod 7)))))
                                                (bK (decide (0 ≤ ((IntKind.i64.wrap cut).tmod (IntKind.i64.wrap (1 + IntKind.i64.wrap (k.tmod 7)))).toNat ∧ ((IntKind.i64.wrap cut).tmod (IntKind.i64.wrap (1 + IntKind.i64.wrap (k.tmod 7)))).toNat ≤ (List.map (mkV false [Lf.fi IntKind.u8]) (putF d1).snd).length))
                                                  (oK (takeBS.dec [AV.slc ((putF d1).fst && decide (((IntKind.i64.wrap cut).tmod (IntKind.i64.wrap (1 + IntKind.i64.wrap (k.tmod 7)))).toNat = (List.map (mkV false [Lf.fi IntKind.u8]) (putF d1).snd).length)) (List.take (((IntKind.i64.wrap cut).tmod (IntKind.i64.wrap (1 + IntKind.i64.wrap (k.tmod 7)))).toNat - 0) (List.drop 0 (List.map (mkV false [Lf.fi IntKind.u8]) (putF d1).snd))), AV.int IntKind.i64 (IntKind.i64.wrap (1 + IntKind.i64.wrap (k.tmod 7)))] []) fun (d31 : (Bool × List Int) × Int) =>
                                                    bK (decide ((↑(List.map (mkV false [Lf.fi IntKind.u8]) (textF d2).snd).length : Int) = 0)) none
                                                      (bK ((List.map (mkV false [Lf.fi IntKind.u8]) (textF d2).snd).all fun (y : AV) => decide (y.cells.length = 1))
                                                        (bK (decide (0 ≤ (IntKind.i64.wrap cut).tmod (↑(List.map (mkV false [Lf.fi IntKind.u8]) (textF d2).snd).length : Int)))
                                                          (bK (decide (0 ≤ ((IntKind.i64.wrap cut).tmod (↑(List.map (mkV false [Lf.fi IntKind.u8]) (textF d2).snd).length : Int)).toNat ∧ ((IntKind.i64.wrap cut).tmod (↑(List.map (mkV false [Lf.fi IntKind.u8]) (textF d2).snd).length : Int)).toNat ≤ (List.map (mkV false [Lf.fi IntKind.u8]) (textF d2).snd).length))
                                                            (oK (takeTS.dec [AV.slc ((textF d2).fst && decide (((IntKind.i64.wrap cut).tmod (↑(List.map (mkV false [Lf.fi IntKind.u8]) (textF d2).snd).length : Int)).toNat = (List.map (mkV false [Lf.fi IntKind.u8]) (textF d2).snd).length)) (List.take (((IntKind.i64.wrap cut).tmod (↑(List.map (mkV false [Lf.fi IntKind.u8]) (textF d2).snd).length : Int)).toNat - 0) (List.drop 0 (List.map (mkV false [Lf.fi IntKind.u8]) (textF d2).snd)))] []) fun (d32 : Bool × List Int) => bK (takeF d29).snd (bK (decide ((takeF d29).fst = IntKind.i64.wrap (v.fdiv (2 ^ min (IntKind.i64.wrap (64 - IntKind.i64.wrap (8 * IntKind.i64.wrap (1 + IntKind.i64.wrap (k.tmod 7))))).toNat 64)))) (bK (ttF d30).snd.snd (bK (decide ((ttF d30).fst = s)) (bK (decide ((ttF d30).snd.fst = (↑(List.map (mkV false [Lf.fi IntKind.u8]) (textF d2).snd).length : Int))) (bK (!(takeF d31).snd) (some { pan := false, res := AV.bool !(ttF d32).snd.snd, out := [], new := [] }) (some { pan := false, res := AV.bool false, out := [], new := [] })) (some { pan := false, res := AV.bool false, out := [], new := [] })) (some { pan := false, res := AV.bool false, out := [], new := [] })) (some { pan := false, res := AV.bool false, out := [], new := [] })) (some { pan := false, res := AV.bool false, out := [], new := [] })) (some { pan := false, res := AV.bool false, out := [], new := [] })) none)
                                                          none)
                                                        none))
                                                  none)
                                                none)
                                              none))
                                        (bK (true && bytesFit Try.prog 5 (0 + (List.map (mkV false [Lf.fi IntKind.u8]) behind).length))
                                          (bK (decide (0 + (0 + (List.map (mkV false [Lf.fi IntKind.u8]) behind).length) ≤ ([] ++ List.map (mkV false [Lf.fi IntKind.u8]) behind).length))
                                            (oK (takeTS.dec [AV.slc false (List.take (0 + (List.map (mkV false [Lf.fi IntKind.u8]) behind).length) (List.drop 0 ([] ++ List.map (mkV false [Lf.fi IntKind.u8]) behind)))] []) fun (d33 : Bool × List Int) =>
                                              bK (decide (IntKind.i64.wrap (1 + IntKind.i64.wrap (k.tmod 7)) = 0)) none
                                                (bK ((List.map (mkV false [Lf.fi IntKind.u8]) (putF d1).snd).all fun (y : AV) => decide (y.cells.length = 1))
                                                  (bK (decide (0 ≤ (IntKind.i64.wrap cut).tmod (IntKind.i64.wrap (1 + IntKind.i64.wrap (k.tmod 7)))))
                                                    (bK (decide (0 ≤ ((IntKind.i64.wrap cut).tmod (IntKind.i64.wrap (1 + IntKind.i64.wrap (k.tmod 7)))).toNat ∧ ((IntKind.i64.wrap cut).tmod (IntKind.i64.wrap (1 + IntKind.i64.wrap (k.tmod 7)))).toNat ≤ (List.map (mkV false [Lf.fi IntKind.u8]) (putF d1).snd).length))
                                                      (oK (takeBS.dec [AV.slc ((putF d1).fst && decide (((IntKind.i64.wrap cut).tmod (IntKind.i64.wrap (1 + IntKind.i64.wrap (k.tmod 7)))).toNat = (List.map (mkV false [Lf.fi IntKind.u8]) (putF d1).snd).length)) (List.take (((IntKind.i64.wrap cut).tmod (IntKind.i64.wrap (1 + IntKind.i64.wrap (k.tmod 7)))).toNat - 0) (List.drop 0 (List.map (mkV false [Lf.fi IntKind.u8]) (putF d1).snd))), AV.int IntKind.i64 (IntKind.i64.wrap (1 + IntKind.i64.wrap (k.tmod 7)))] []) fun (d34 : (Bool × List Int) × Int) =>
                                                        bK (decide ((↑(List.map (mkV false [Lf.fi IntKind.u8]) (textF d2).snd).length : Int) = 0)) none
                                                          (bK ((List.map (mkV false [Lf.fi IntKind.u8]) (textF d2).snd).all fun (y : AV) => decide (y.cells.length = 1))
                                                            (bK (decide (0 ≤ (IntKind.i64.wrap cut).tmod (↑(List.map (mkV false [Lf.fi IntKind.u8]) (textF d2).snd).length : Int)))
                                                              (bK (decide (0 ≤ ((IntKind.i64.wrap cut).tmod (↑(List.map (mkV false [Lf.fi IntKind.u8]) (textF d2).snd).length : Int)).toNat ∧ ((IntKind.i64.wrap cut).tmod (↑(List.map (mkV false [Lf.fi IntKind.u8]) (textF d2).snd).length : Int)).toNat ≤ (List.map (mkV false [Lf.fi IntKind.u8]) (textF d2).snd).length))
                                                                (oK (takeTS.dec [AV.slc ((textF d2).fst && decide (((IntKind.i64.wrap cut).tmod (↑(List.map (mkV false [Lf.fi IntKind.u8]) (textF d2).snd).length : Int)).toNat = (List.map (mkV false [Lf.fi IntKind.u8]) (textF d2).snd).length)) (List.take (((IntKind.i64.wrap cut).tmod (↑(List.map (mkV false [Lf.fi IntKind.u8]) (textF d2).snd).length : Int)).toNat - 0) (List.drop 0 (List.map (mkV false [Lf.fi IntKind.u8]) (textF d2).snd)))] []) fun (d35 : Bool × List Int) => bK (takeF d29).snd (bK (decide ((takeF d29).fst = IntKind.i64.wrap (v.fdiv (2 ^ min (IntKind.i64.wrap (64 - IntKind.i64.wrap (8 * IntKind.i64.wrap (1 + IntKind.i64.wrap (k.tmod 7))))).toNat 64)))) (bK (ttF d33).snd.snd (bK (decide ((ttF d33).fst = s)) (bK (decide ((ttF d33).snd.fst = (↑(List.map (mkV false [Lf.fi IntKind.u8]) (textF d2).snd).length : Int))) (bK (!(takeF d34).snd) (some { pan := false, res := AV.bool !(ttF d35).snd.snd, out := [], new := [] }) (some { pan := false, res := AV.bool false, out := [], new := [] })) (some { pan := false, res := AV.bool false, out := [], new := [] })) (some { pan := false, res := AV.bool false, out := [], new := [] })) (some { pan := false, res := AV.bool false, out := [], new := [] })) (some { pan := false, res := AV.bool false, out := [], new := [] })) (some { pan := false, res := AV.bool false, out := [], new := [] })) none)
                                                              none)
                                                            none))
                                                      none)
                                                    none)
                                                  none))
                                            none)
                                          none))
                                      none)
                                    (bK (true && bytesFit Try.prog 5 (0 + (List.map (mkV false [Lf.fi IntKind.u8]) (textF d2).snd).length))
                                      (bK ((List.map (mkV false [Lf.fi IntKind.u8]) behind).all fun (y : AV) => decide (y.cells.length = 1))
                                        (bK (decide (0 + (0 + (List.map (mkV false [Lf.fi IntKind.u8]) (textF d2).snd).length) ≤ ([] ++ List.map (mkV false [Lf.fi IntKind.u8]) (textF d2).snd).length))
                                          (bK (List.map (mkV false [Lf.fi IntKind.u8]) behind).isEmpty
                                            (bK (decide (0 + (0 + (List.map (mkV false [Lf.fi IntKind.u8]) (textF d2).snd).length) ≤ ([] ++ List.map (mkV false [Lf.fi IntKind.u8]) (textF d2).snd).length))
                                              (oK (takeTS.dec [AV.slc false (List.take (0 + (List.map (mkV false [Lf.fi IntKind.u8]) (textF d2).snd).length) (List.drop 0 ([] ++ List.map (mkV false [Lf.fi IntKind.u8]) (textF d2).snd)))] []) fun (d36 : Bool × List Int) =>
                                                bK (decide (IntKind.i64.wrap (1 + IntKind.i64.wrap (k.tmod 7)) = 0)) none
                                                  (bK ((List.map (mkV false [Lf.fi IntKind.u8]) (putF d1).snd).all fun (y : AV) => decide (y.cells.length = 1))
                                                    (bK (decide (0 ≤ (IntKind.i64.wrap cut).tmod (IntKind.i64.wrap (1 + IntKind.i64.wrap (k.tmod 7)))))
                                                      (bK (decide (0 ≤ ((IntKind.i64.wrap cut).tmod (IntKind.i64.wrap (1 + IntKind.i64.wrap (k.tmod 7)))).toNat ∧ ((IntKind.i64.wrap cut).tmod (IntKind.i64.wrap (1 + IntKind.i64.wrap (k.tmod 7)))).toNat ≤ (List.map (mkV false [Lf.fi IntKind.u8]) (putF d1).snd).length))
                                                        (oK (takeBS.dec [AV.slc ((putF d1).fst && decide (((IntKind.i64.wrap cut).tmod (IntKind.i64.wrap (1 + IntKind.i64.wrap (k.tmod 7)))).toNat = (List.map (mkV false [Lf.fi IntKind.u8]) (putF d1).snd).length)) (List.take (((IntKind.i64.wrap cut).tmod (IntKind.i64.wrap (1 + IntKind.i64.wrap (k.tmod 7)))).toNat - 0) (List.drop 0 (List.map (mkV false [Lf.fi IntKind.u8]) (putF d1).snd))), AV.int IntKind.i64 (IntKind.i64.wrap (1 + IntKind.i64.wrap (k.tmod 7)))] []) fun (d37 : (Bool × List Int) × Int) =>
                                                          bK (decide ((↑(List.map (mkV false [Lf.fi IntKind.u8]) (textF d2).snd).length : Int) = 0)) none
                                                            (bK ((List.map (mkV false [Lf.fi IntKind.u8]) (textF d2).snd).all fun (y : AV) => decide (y.cells.length = 1))
                                                              (bK (decide (0 ≤ (IntKind.i64.wrap cut).tmod (↑(List.map (mkV false [Lf.fi IntKind.u8]) (textF d2).snd).length : Int)))
                                                                (bK (decide (0 ≤ ((IntKind.i64.wrap cut).tmod (↑(List.map (mkV false [Lf.fi IntKind.u8]) (textF d2).snd).length : Int)).toNat ∧ ((IntKind.i64.wrap cut).tmod (↑(List.map (mkV false [Lf.fi IntKind.u8]) (textF d2).snd).length : Int)).toNat ≤ (List.map (mkV false [Lf.fi IntKind.u8]) (textF d2).snd).length))
                                                                  (oK (takeTS.dec [AV.slc ((textF d2).fst && decide (((IntKind.i64.wrap cut).tmod (↑(List.map (mkV false [Lf.fi IntKind.u8]) (textF d2).snd).length : Int)).toNat = (List.map (mkV false [Lf.fi IntKind.u8]) (textF d2).snd).length)) (List.take (((IntKind.i64.wrap cut).tmod (↑(List.map (mkV false [Lf.fi IntKind.u8]) (textF d2).snd).length : Int)).toNat - 0) (List.drop 0 (List.map (mkV false [Lf.fi IntKind.u8]) (textF d2).snd)))] []) fun (d38 : Bool × List Int) => bK (takeF d29).snd (bK (decide ((takeF d29).fst = IntKind.i64.wrap (v.fdiv (2 ^ min (IntKind.i64.wrap (64 - IntKind.i64.wrap (8 * IntKind.i64.wrap (1 + IntKind.i64.wrap (k.tmod 7))))).toNat 64)))) (bK (ttF d36).snd.snd (bK (decide ((ttF d36).fst = s)) (bK (decide ((ttF d36).snd.fst = (↑(List.map (mkV false [Lf.fi IntKind.u8]) (textF d2).snd).length : Int))) (bK (!(takeF d37).snd) (some { pan := false, res := AV.bool !(ttF d38).snd.snd, out := [], new := [] }) (some { pan := false, res := AV.bool false, out := [], new := [] })) (some { pan := false, res := AV.bool false, out := [], new := [] })) (some { pan := false, res := AV.bool false, out := [], new := [] })) (some { pan := false, res := AV.bool false, out := [], new := [] })) (some { pan := false, res := AV.bool false, out := [], new := [] })) (some { pan := false, res := AV.bool false, out := [], new := [] })) none)
                                                                none)
                                                              none))
                                                        none)
                                                      none)
                                                    none))
                                              none)
                                            (bK (decide (0 = 0 ∧ 0 + (List.map (mkV false [Lf.fi IntKind.u8]) (textF d2).snd).length = ([] ++ List.map (mkV false [Lf.fi IntKind.u8]) (textF d2).snd).length) && bytesFit Try.prog 5 (0 + (List.map (mkV false [Lf.fi IntKind.u8]) (textF d2).snd).length + (List.map (mkV false [Lf.fi IntKind.u8]) behind).length))
                                              (bK (decide (0 + (0 + (List.map (mkV false [Lf.fi IntKind.u8]) (textF d2).snd).length + (List.map (mkV false [Lf.fi IntKind.u8]) behind).length) ≤ (List.take (0 + (List.map (mkV false [Lf.fi IntKind.u8]) (textF d2).snd).length) ([] ++ List.map (mkV false [Lf.fi IntKind.u8]) (textF d2).snd) ++ List.map (mkV false [Lf.fi IntKind.u8]) behind).length))
                                                (oK (takeTS.dec [AV.slc false (List.take (0 + (List.map (mkV false [Lf.fi IntKind.u8]) (textF d2).snd).length + (List.map (mkV false [Lf.fi IntKind.u8]) behind).length) (List.drop 0 (List.take (0 + (List.map (mkV false [Lf.fi IntKind.u8]) (textF d2).snd).length) ([] ++ List.map (mkV false [Lf.fi IntKind.u8]) (textF d2).snd) ++ List.map (mkV false [Lf.fi IntKind.u8]) behind)))] []) fun (d39 : Bool × List Int) =>
                                                  bK (decide (IntKind.i64.wrap (1 + IntKind.i64.wrap (k.tmod 7)) = 0)) none
                                                    (bK ((List.map (mkV false [Lf.fi IntKind.u8]) (putF d1).snd).all fun (y : AV) => decide (y.cells.length = 1))
                                                      (bK (decide (0 ≤ (IntKind.i64.wrap cut).tmod (IntKind.i64.wrap (1 + IntKind.i64.wrap (k.tmod 7)))))
                                                        (bK (decide (0 ≤ ((IntKind.i64.wrap cut).tmod (IntKind.i64.wrap (1 + IntKind.i64.wrap (k.tmod 7)))).toNat ∧ ((IntKind.i64.wrap cut).tmod (IntKind.i64.wrap (1 + IntKind.i64.wrap (k.tmod 7)))).toNat ≤ (List.map (mkV false [Lf.fi IntKind.u8]) (putF d1).snd).length))
                                                          (oK (takeBS.dec [AV.slc ((putF d1).fst && decide (((IntKind.i64.wrap cut).tmod (IntKind.i64.wrap (1 + IntKind.i64.wrap (k.tmod 7)))).toNat = (List.map (mkV false [Lf.fi IntKind.u8]) (putF d1).snd).length)) (List.take (((IntKind.i64.wrap cut).tmod (IntKind.i64.wrap (1 + IntKind.i64.wrap (k.tmod 7)))).toNat - 0) (List.drop 0 (List.map (mkV false [Lf.fi IntKind.u8]) (putF d1).snd))), AV.int IntKind.i64 (IntKind.i64.wrap (1 + IntKind.i64.wrap (k.tmod 7)))] []) fun (d40 : (Bool × List Int) × Int) =>
                                                            bK (decide ((↑(List.map (mkV false [Lf.fi IntKind.u8]) (textF d2).snd).length : Int) = 0)) none
                                                              (bK ((List.map (mkV false [Lf.fi IntKind.u8]) (textF d2).snd).all fun (y : AV) => decide (y.cells.length = 1))
                                                                (bK (decide (0 ≤ (IntKind.i64.wrap cut).tmod (↑(List.map (mkV false [Lf.fi IntKind.u8]) (textF d2).snd).length : Int)))
                                                                  (bK (decide (0 ≤ ((IntKind.i64.wrap cut).tmod (↑(List.map (mkV false [Lf.fi IntKind.u8]) (textF d2).snd).length : Int)).toNat ∧ ((IntKind.i64.wrap cut).tmod (↑(List.map (mkV false [Lf.fi IntKind.u8]) (textF d2).snd).length : Int)).toNat ≤ (List.map (mkV false [Lf.fi IntKind.u8]) (textF d2).snd).length))
                                                                    (oK (takeTS.dec [AV.slc ((textF d2).fst && decide (((IntKind.i64.wrap cut).tmod (↑(List.map (mkV false [Lf.fi IntKind.u8]) (textF d2).snd).length : Int)).toNat = (List.map (mkV false [Lf.fi IntKind.u8]) (textF d2).snd).length)) (List.take (((IntKind.i64.wrap cut).tmod (↑(List.map (mkV false [Lf.fi IntKind.u8]) (textF d2).snd).length : Int)).toNat - 0) (List.drop 0 (List.map (mkV false [Lf.fi IntKind.u8]) (textF d2).snd)))] []) fun (d41 : Bool × List Int) => bK (takeF d29).snd (bK (decide ((takeF d29).fst = IntKind.i64.wrap (v.fdiv (2 ^ min (IntKind.i64.wrap (64 - IntKind.i64.wrap (8 * IntKind.i64.wrap (1 + IntKind.i64.wrap (k.tmod 7))))).toNat 64)))) (bK (ttF d39).snd.snd (bK (decide ((ttF d39).fst = s)) (bK (decide ((ttF d39).snd.fst = (↑(List.map (mkV false [Lf.fi IntKind.u8]) (textF d2).snd).length : Int))) (bK (!(takeF d40).snd) (some { pan := false, res := AV.bool !(ttF d41).snd.snd, out := [], new := [] }) (some { pan := false, res := AV.bool false, out := [], new := [] })) (some { pan := false, res := AV.bool false, out := [], new := [] })) (some { pan := false, res := AV.bool false, out := [], new := [] })) (some { pan := false, res := AV.bool false, out := [], new := [] })) (some { pan := false, res := AV.bool false, out := [], new := [] })) (some { pan := false, res := AV.bool false, out := [], new := [] })) none)
                                                                  none)
                                                                none))
                                                          none)
                                                        none)
                                                      none))
                                                none)
                                              none))
                                          none)
                                        none)
                                      none))
                                  none)
                              none)
                            (bK (decide (0 = 0 ∧ 0 + (List.map (mkV false [Lf.fi IntKind.u8]) (putF d1).snd).length = ([] ++ List.map (mkV false [Lf.fi IntKind.u8]) (putF d1).snd).length) && bytesFit Try.prog 5 (0 + (List.map (mkV false [Lf.fi IntKind.u8]) (putF d1).snd).length + (List.map (mkV false [Lf.fi IntKind.u8]) behind).length))
                              (bK (decide (0 + (0 + (List.map (mkV false [Lf.fi IntKind.u8]) (putF d1).snd).length + (List.map (mkV false [Lf.fi IntKind.u8]) behind).length) ≤ (List.take (0 + (List.map (mkV false [Lf.fi IntKind.u8]) (putF d1).snd).length) ([] ++ List.map (mkV false [Lf.fi IntKind.u8]) (putF d1).snd) ++ List.map (mkV false [Lf.fi IntKind.u8]) behind).length))
                                (oK (takeBS.dec [AV.slc false (List.take (0 + (List.map (mkV false [Lf.fi IntKind.u8]) (putF d1).snd).length + (List.map (mkV false [Lf.fi IntKind.u8]) behind).length) (List.drop 0 (List.take (0 + (List.map (mkV false [Lf.fi IntKind.u8]) (putF d1).snd).length) ([] ++ List.map (mkV false [Lf.fi IntKind.u8]) (putF d1).snd) ++ List.map (mkV false [Lf.fi IntKind.u8]) behind))), AV.int IntKind.i64 (IntKind.i64.wrap (1 + IntKind.i64.wrap (k.tmod 7)))] []) fun (d42 : (Bool × List Int) × Int) =>
                                  bK ((List.map (mkV false [Lf.fi IntKind.u8]) (textF d2).snd).all fun (y : AV) => decide (y.cells.length = 1))
                                    (bK (List.map (mkV false [Lf.fi IntKind.u8]) (textF d2).snd).isEmpty
                                      (bK ((List.map (mkV false [Lf.fi IntKind.u8]) behind).all fun (y : AV) => decide (y.cells.length = 1))
                                        (bK (List.map (mkV false [Lf.fi IntKind.u8]) behind).isEmpty
                                          (oK (takeTS.dec [AV.slc false []] []) fun (d43 : Bool × List Int) =>
                                            bK (decide (IntKind.i64.wrap (1 + IntKind.i64.wrap (k.tmod 7)) = 0)) none
                                              (bK ((List.map (mkV false [Lf.fi IntKind.u8]) (putF d1).snd).all fun (y : AV) => decide (y.cells.length = 1))
                                                (bK (decide (0 ≤ (IntKind.i64.wrap cut).tmod (IntKind.i64.wrap (1 + IntKind.i64.wrap (k.tmod 7)))))
                                                  (bK (decide (0 ≤ ((IntKind.i64.wrap cut).tmod (IntKind.i64.wrap (1 + IntKind.i64.wrap (k.tmod 7)))).toNat ∧ ((IntKind.i64.wrap cut).tmod (IntKind.i64.wrap (1 + IntKind.i64.wrap (k.tmod 7)))).toNat ≤ (List.map (mkV false [Lf.fi IntKind.u8]) (putF d1).snd).length))
                                                    (oK (takeBS.dec [AV.slc ((putF d1).fst && decide (((IntKind.i64.wrap cut).tmod (IntKind.i64.wrap (1 + IntKind.i64.wrap (k.tmod 7)))).toNat = (List.map (mkV false [Lf.fi IntKind.u8]) (putF d1).snd).length)) (List.take (((IntKind.i64.wrap cut).tmod (IntKind.i64.wrap (1 + IntKind.i64.wrap (k.tmod 7)))).toNat - 0) (List.drop 0 (List.map (mkV false [Lf.fi IntKind.u8]) (putF d1).snd))), AV.int IntKind.i64 (IntKind.i64.wrap (1 + IntKind.i64.wrap (k.tmod 7)))] []) fun (d44 : (Bool × List Int) × Int) =>
                                                      bK (decide ((↑(List.map (mkV false [Lf.fi IntKind.u8]) (textF d2).snd).length : Int) = 0)) none
                                                        (bK ((List.map (mkV false [Lf.fi IntKind.u8]) (textF d2).snd).all fun (y : AV) => decide (y.cells.length = 1))
                                                          (bK (decide (0 ≤ (IntKind.i64.wrap cut).tmod (↑(List.map (mkV false [Lf.fi IntKind.u8]) (textF d2).snd).length : Int)))
                                                            (bK (decide (0 ≤ ((IntKind.i64.wrap cut).tmod (↑(List.map (mkV false [Lf.fi IntKind.u8]) (textF d2).snd).length : Int)).toNat ∧ ((IntKind.i64.wrap cut).tmod (↑(List.map (mkV false [Lf.fi IntKind.u8]) (textF d2).snd).length : Int)).toNat ≤ (List.map (mkV false [Lf.fi IntKind.u8]) (textF d2).snd).length))
                                                              (oK (takeTS.dec [AV.slc ((textF d2).fst && decide (((IntKind.i64.wrap cut).tmod (↑(List.map (mkV false [Lf.fi IntKind.u8]) (textF d2).snd).length : Int)).toNat = (List.map (mkV false [Lf.fi IntKind.u8]) (textF d2).snd).length)) (List.take (((IntKind.i64.wrap cut).tmod (↑(List.map (mkV false [Lf.fi IntKind.u8]) (textF d2).snd).length : Int)).toNat - 0) (List.drop 0 (List.map (mkV false [Lf.fi IntKind.u8]) (textF d2).snd)))] []) fun (d45 : Bool × List Int) => bK (takeF d42).snd (bK (decide ((takeF d42).fst = IntKind.i64.wrap (v.fdiv (2 ^ min (IntKind.i64.wrap (64 - IntKind.i64.wrap (8 * IntKind.i64.wrap (1 + IntKind.i64.wrap (k.tmod 7))))).toNat 64)))) (bK (ttF d43).snd.snd (bK (decide ((ttF d43).fst = s)) (bK (decide ((ttF d43).snd.fst = (↑(List.map (mkV false [Lf.fi IntKind.u8]) (textF d2).snd).length : Int))) (bK (!(takeF d44).snd) (some { pan := false, res := AV.bool !(ttF d45).snd.snd, out := [], new := [] }) (some { pan := false, res := AV.bool false, out := [], new := [] })) (some { pan := false, res := AV.bool false, out := [], new := [] })) (some { pan := false, res := AV.bool false, out := [], new := [] })) (some { pan := false, res := AV.bool false, out := [], new := [] })) (some { pan := false, res := AV.bool false, out := [], new := [] })) (some { pan := false, res := AV.bool false, out := [], new := [] })) none)
                                                            none)
                                                          none))
                                                    none)
                                                  none)
                                                none))
                                          (bK (true && bytesFit Try.prog 5 (0 + (List.map (mkV false [Lf.fi IntKind.u8]) behind).length))
                                            (bK (decide (0 + (0 + (List.map (mkV false [Lf.fi IntKind.u8]) behind).length) ≤ ([] ++ List.map (mkV false [Lf.fi IntKind.u8]) behind).length))
                                              (oK (takeTS.dec [AV.slc false (List.take (0 + (List.map (mkV false [Lf.fi IntKind.u8]) behind).length) (List.drop 0 ([] ++ List.map (mkV false [Lf.fi IntKind.u8]) behind)))] []) fun (d46 : Bool × List Int) =>
                                                bK (decide (IntKind.i64.wrap (1 + IntKind.i64.wrap (k.tmod 7)) = 0)) none
                                                  (bK ((List.map (mkV false [Lf.fi IntKind.u8]) (putF d1).snd).all fun (y : AV) => decide (y.cells.length = 1))
                                                    (bK (decide (0 ≤ (IntKind.i64.wrap cut).tmod (IntKind.i64.wrap (1 + IntKind.i64.wrap (k.tmod 7)))))
                                                      (bK (decide (0 ≤ ((IntKind.i64.wrap cut).tmod (IntKind.i64.wrap (1 + IntKind.i64.wrap (k.tmod 7)))).toNat ∧ ((IntKind.i64.wrap cut).tmod (IntKind.i64.wrap (1 + IntKind.i64.wrap (k.tmod 7)))).toNat ≤ (List.map (mkV false [Lf.fi IntKind.u8]) (putF d1).snd).length))
                                                        (oK (takeBS.dec [AV.slc ((putF d1).fst && decide (((IntKind.i64.wrap cut).tmod (IntKind.i64.wrap (1 + IntKind.i64.wrap (k.tmod 7)))).toNat = (List.map (mkV false [Lf.fi IntKind.u8]) (putF d1).snd).length)) (List.take (((IntKind.i64.wrap cut).tmod (IntKind.i64.wrap (1 + IntKind.i64.wrap (k.tmod 7)))).toNat - 0) (List.drop 0 (List.map (mkV false [Lf.fi IntKind.u8]) (putF d1).snd))), AV.int IntKind.i64 (IntKind.i64.wrap (1 + IntKind.i64.wrap (k.tmod 7)))] []) fun (d47 : (Bool × List Int) × Int) =>
                                                          bK (decide ((↑(List.map (mkV false [Lf.fi IntKind.u8]) (textF d2).snd).length : Int) = 0)) none
                                                            (bK ((List.map (mkV false [Lf.fi IntKind.u8]) (textF d2).snd).all fun (y : AV) => decide (y.cells.length = 1))
                                                              (bK (decide (0 ≤ (IntKind.i64.wrap cut).tmod (↑(List.map (mkV false [Lf.fi IntKind.u8]) (textF d2).snd).length : Int)))
                                                                (bK (decide (0 ≤ ((IntKind.i64.wrap cut).tmod (↑(List.map (mkV false [Lf.fi IntKind.u8]) (textF d2).snd).length : Int)).toNat ∧ ((IntKind.i64.wrap cut).tmod (↑(List.map (mkV false [Lf.fi IntKind.u8]) (textF d2).snd).length : Int)).toNat ≤ (List.map (mkV false [Lf.fi IntKind.u8]) (textF d2).snd).length))
                                                                  (oK (takeTS.dec [AV.slc ((textF d2).fst && decide (((IntKind.i64.wrap cut).tmod (↑(List.map (mkV false [Lf.fi IntKind.u8]) (textF d2).snd).length : Int)).toNat = (List.map (mkV false [Lf.fi IntKind.u8]) (textF d2).snd).length)) (List.take (((IntKind.i64.wrap cut).tmod (↑(List.map (mkV false [Lf.fi IntKind.u8]) (textF d2).snd).length : Int)).toNat - 0) (List.drop 0 (List.map (mkV false [Lf.fi IntKind.u8]) (textF d2).snd)))] []) fun (d48 : Bool × List Int) => bK (takeF d42).snd (bK (decide ((takeF d42).fst = IntKind.i64.wrap (v.fdiv (2 ^ min (IntKind.i64.wrap (64 - IntKind.i64.wrap (8 * IntKind.i64.wrap (1 + IntKind.i64.wrap (k.tmod 7))))).toNat 64)))) (bK (ttF d46).snd.snd (bK (decide ((ttF d46).fst = s)) (bK (decide ((ttF d46).snd.fst = (↑(List.map (mkV false [Lf.fi IntKind.u8]) (textF d2).snd).length : Int))) (bK (!(takeF d47).snd) (some { pan := false, res := AV.bool !(ttF d48).snd.snd, out := [], new := [] }) (some { pan := false, res := AV.bool false, out := [], new := [] })) (some { pan := false, res := AV.bool false, out := [], new := [] })) (some { pan := false, res := AV.bool false, out := [], new := [] })) (some { pan := false, res := AV.bool false, out := [], new := [] })) (some { pan := false, res := AV.bool false, out := [], new := [] })) (some { pan := false, res := AV.bool false, out := [], new := [] })) none)
                                                                none)
                                                              none))
                                                        none)
                                                      none)
                                                    none))
                                              none)
                                            none))
                                        none)
                                      (bK (true && bytesFit Try.prog 5 (0 + (List.map (mkV false [Lf.fi IntKind.u8]) (textF d2).snd).length))
                                        (bK ((List.map (mkV false [Lf.fi IntKind.u8]) behind).all fun (y : AV) => decide (y.cells.length = 1))
                                          (bK (decide (0 + (0 + (List.map (mkV false [Lf.fi IntKind.u8]) (textF d2).snd).length) ≤ ([] ++ List.map (mkV false [Lf.fi IntKind.u8]) (textF d2).snd).length))
                                            (bK (List.map (mkV false [Lf.fi IntKind.u8]) behind).isEmpty
                                              (bK (decide (0 + (0 + (List.map (mkV false [Lf.fi IntKind.u8]) (textF d2).snd).length) ≤ ([] ++ List.map (mkV false [Lf.fi IntKind.u8]) (textF d2).snd).length))
                                                (oK (takeTS.dec [AV.slc false (List.take (0 + (List.map (mkV false [Lf.fi IntKind.u8]) (textF d2).snd).length) (List.drop 0 ([] ++ List.map (mkV false [Lf.fi IntKind.u8]) (textF d2).snd)))] []) fun (d49 : Bool × List Int) =>
                                                  bK (decide (IntKind.i64.wrap (1 + IntKind.i64.wrap (k.tmod 7)) = 0)) none
                                                    (bK ((List.map (mkV false [Lf.fi IntKind.u8]) (putF d1).snd).all fun (y : AV) => decide (y.cells.length = 1))
                                                      (bK (decide (0 ≤ (IntKind.i64.wrap cut).tmod (IntKind.i64.wrap (1 + IntKind.i64.wrap (k.tmod 7)))))
                                                        (bK (decide (0 ≤ ((IntKind.i64.wrap cut).tmod (IntKind.i64.wrap (1 + IntKind.i64.wrap (k.tmod 7)))).toNat ∧ ((IntKind.i64.wrap cut).tmod (IntKind.i64.wrap (1 + IntKind.i64.wrap (k.tmod 7)))).toNat ≤ (List.map (mkV false [Lf.fi IntKind.u8]) (putF d1).snd).length))
                                                          (oK (takeBS.dec [AV.slc ((putF d1).fst && decide (((IntKind.i64.wrap cut).tmod (IntKind.i64.wrap (1 + IntKind.i64.wrap (k.tmod 7)))).toNat = (List.map (mkV false [Lf.fi IntKind.u8]) (putF d1).snd).length)) (List.take (((IntKind.i64.wrap cut).tmod (IntKind.i64.wrap (1 + IntKind.i64.wrap (k.tmod 7)))).toNat - 0) (List.drop 0 (List.map (mkV false [Lf.fi IntKind.u8]) (putF d1).snd))), AV.int IntKind.i64 (IntKind.i64.wrap (1 + IntKind.i64.wrap (k.tmod 7)))] []) fun (d50 : (Bool × List Int) × Int) =>
                                                            bK (decide ((↑(List.map (mkV false [Lf.fi IntKind.u8]) (textF d2).snd).length : Int) = 0)) none
                                                              (bK ((List.map (mkV false [Lf.fi IntKind.u8]) (textF d2).snd).all fun (y : AV) => decide (y.cells.length = 1))
                                                                (bK (decide (0 ≤ (IntKind.i64.wrap cut).tmod (↑(List.map (mkV false [Lf.fi IntKind.u8]) (textF d2).snd).length : Int)))
                                                                  (bK (decide (0 ≤ ((IntKind.i64.wrap cut).tmod (↑(List.map (mkV false [Lf.fi IntKind.u8]) (textF d2).snd).length : Int)).toNat ∧ ((IntKind.i64.wrap cut).tmod (↑(List.map (mkV false [Lf.fi IntKind.u8]) (textF d2).snd).length : Int)).toNat ≤ (List.map (mkV false [Lf.fi IntKind.u8]) (textF d2).snd).length))
                                                                    (oK (takeTS.dec [AV.slc ((textF d2).fst && decide (((IntKind.i64.wrap cut).tmod (↑(List.map (mkV false [Lf.fi IntKind.u8]) (textF d2).snd).length : Int)).toNat = (List.map (mkV false [Lf.fi IntKind.u8]) (textF d2).snd).length)) (List.take (((IntKind.i64.wrap cut).tmod (↑(List.map (mkV false [Lf.fi IntKind.u8]) (textF d2).snd).length : Int)).toNat - 0) (List.drop 0 (List.map (mkV false [Lf.fi IntKind.u8]) (textF d2).snd)))] []) fun (d51 : Bool × List Int) => bK (takeF d42).snd (bK (decide ((takeF d42).fst = IntKind.i64.wrap (v.fdiv (2 ^ min (IntKind.i64.wrap (64 - IntKind.i64.wrap (8 * IntKind.i64.wrap (1 + IntKind.i64.wrap (k.tmod 7))))).toNat 64)))) (bK (ttF d49).snd.snd (bK (decide ((ttF d49).fst = s)) (bK (decide ((ttF d49).snd.fst = (↑(List.map (mkV false [Lf.fi IntKind.u8]) (textF d2).snd).length : Int))) (bK (!(takeF d50).snd) (some { pan := false, res := AV.bool !(ttF d51).snd.snd, out := [], new := [] }) (some { pan := false, res := AV.bool false, out := [], new := [] })) (some { pan := false, res := AV.bool false, out := [], new := [] })) (some { pan := false, res := AV.bool false, out := [], new := [] })) (some { pan := false, res := AV.bool false, out := [], new := [] })) (some { pan := false, res := AV.bool false, out := [], new := [] })) (some { pan := false, res := AV.bool false, out := [], new := [] })) none)
                                                                  none)
                                                                none))
                                                          none)
                                                        none)
                                                      none))
                                                none)
                                              (bK (decide (0 = 0 ∧ 0 + (List.map (mkV false [Lf.fi IntKind.u8]) (textF d2).snd).length = ([] ++ List.map (mkV false [Lf.fi IntKind.u8]) (textF d2).snd).length) && bytesFit Try.prog 5 (0 + (List.map (mkV false [Lf.fi IntKind.u8]) (textF d2).snd).length + (List.map (mkV false [Lf.fi IntKind.u8]) behind).length))
                                                (bK (decide (0 + (0 + (List.map (mkV false [Lf.fi IntKind.u8]) (textF d2).snd).length + (List.map (mkV false [Lf.fi IntKind.u8]) behind).length) ≤ (List.take (0 + (List.map (mkV false [Lf.fi IntKind.u8]) (textF d2).snd).length) ([] ++ List.map (mkV false [Lf.fi IntKind.u8]) (textF d2).snd) ++ List.map (mkV false [Lf.fi IntKind.u8]) behind).length))
                                                  (oK (takeTS.dec [AV.slc false (List.take (0 + (List.map (mkV false [Lf.fi IntKind.u8]) (textF d2).snd).length + (List.map (mkV false [Lf.fi IntKind.u8]) behind).length) (List.drop 0 (List.take (0 + (List.map (mkV false [Lf.fi IntKind.u8]) (textF d2).snd).length) ([] ++ List.map (mkV false [Lf.fi IntKind.u8]) (textF d2).snd) ++ List.map (mkV false [Lf.fi IntKind.u8]) behind)))] []) fun (d52 : Bool × List Int) =>
                                                    bK (decide (IntKind.i64.wrap (1 + IntKind.i64.wrap (k.tmod 7)) = 0)) none
                                                      (bK ((List.map (mkV false [Lf.fi IntKind.u8]) (putF d1).snd).all fun (y : AV) => decide (y.cells.length = 1))
                                                        (bK (decide (0 ≤ (IntKind.i64.wrap cut).tmod (IntKind.i64.wrap (1 + IntKind.i64.wrap (k.tmod 7)))))
                                                          (bK (decide (0 ≤ ((IntKind.i64.wrap cut).tmod (IntKind.i64.wrap (1 + IntKind.i64.wrap (k.tmod 7)))).toNat ∧ ((IntKind.i64.wrap cut).tmod (IntKind.i64.wrap (1 + IntKind.i64.wrap (k.tmod 7)))).toNat ≤ (List.map (mkV false [Lf.fi IntKind.u8]) (putF d1).snd).length))
                                                            (oK (takeBS.dec [AV.slc ((putF d1).fst && decide (((IntKind.i64.wrap cut).tmod (IntKind.i64.wrap (1 + IntKind.i64.wrap (k.tmod 7)))).toNat = (List.map (mkV false [Lf.fi IntKind.u8]) (putF d1).snd).length)) (List.take (((IntKind.i64.wrap cut).tmod (IntKind.i64.wrap (1 + IntKind.i64.wrap (k.tmod 7)))).toNat - 0) (List.drop 0 (List.map (mkV false [Lf.fi IntKind.u8]) (putF d1).snd))), AV.int IntKind.i64 (IntKind.i64.wrap (1 + IntKind.i64.wrap (k.tmod 7)))] []) fun (d53 : (Bool × List Int) × Int) =>
                                                              bK (decide ((↑(List.map (mkV false [Lf.fi IntKind.u8]) (textF d2).snd).length : Int) = 0)) none
                                                                (bK ((List.map (mkV false [Lf.fi IntKind.u8]) (textF d2).snd).all fun (y : AV) => decide (y.cells.length = 1))
                                                                  (bK (decide (0 ≤ (IntKind.i64.wrap cut).tmod (↑(List.map (mkV false [Lf.fi IntKind.u8]) (textF d2).snd).length : Int)))
                                                                    (bK (decide (0 ≤ ((IntKind.i64.wrap cut).tmod (↑(List.map (mkV false [Lf.fi IntKind.u8]) (textF d2).snd).length : Int)).toNat ∧ ((IntKind.i64.wrap cut).tmod (↑(List.map (mkV false [Lf.fi IntKind.u8]) (textF d2).snd).length : Int)).toNat ≤ (List.map (mkV false [Lf.fi IntKind.u8]) (textF d2).snd).length))
                                                                      (oK (takeTS.dec [AV.slc ((textF d2).fst && decide (((IntKind.i64.wrap cut).tmod (↑(List.map (mkV false [Lf.fi IntKind.u8]) (textF d2).snd).length : Int)).toNat = (List.map (mkV false [Lf.fi IntKind.u8]) (textF d2).snd).length)) (List.take (((IntKind.i64.wrap cut).tmod (↑(List.map (mkV false [Lf.fi IntKind.u8]) (textF d2).snd).length : Int)).toNat - 0) (List.drop 0 (List.map (mkV false [Lf.fi IntKind.u8]) (textF d2).snd)))] []) fun (d54 : Bool × List Int) => bK (takeF d42).snd (bK (decide ((takeF d42).fst = IntKind.i64.wrap (v.fdiv (2 ^ min (IntKind.i64.wrap (64 - IntKind.i64.wrap (8 * IntKind.i64.wrap (1 + IntKind.i64.wrap (k.tmod 7))))).toNat 64)))) (bK (ttF d52).snd.snd (bK (decide ((ttF d52).fst = s)) (bK (decide ((ttF d52).snd.fst = (↑(List.map (mkV false [Lf.fi IntKind.u8]) (textF d2).snd).length : Int))) (bK (!(takeF d53).snd) (some { pan := false, res := AV.bool !(ttF d54).snd.snd, out := [], new := [] }) (some { pan := false, res := AV.bool false, out := [], new := [] })) (some { pan := false, res := AV.bool false, out := [], new := [] })) (some { pan := false, res := AV.bool false, out := [], new := [] })) (some { pan := false, res := AV.bool false, out := [], new := [] })) (some { pan := false, res := AV.bool false, out := [], new := [] })) (some { pan := false, res := AV.bool false, out := [], new := [] })) none)
                                                                    none)
                                                                  none))
                                                            none)
                                                          none)
                                                        none))
                                                  none)
                                                none))
                                            none)
                                          none)
                                        none))
                                    none)
                                none)
                              none))
                          none)
                        none)
                      none))
                  none)))))
theorem bitsBack_w (v : Int) (k : Int) (s : List UInt8) (behind_x : Bool) (behind : List Int) (cut : Int) : unitQ Try.prog cfg PK9 LP0 true 4 (groupA bitsBack_sh (Tu.mk bitsBack_fs (v, k, s, (behind_x, behind), cut))) [] = bitsBack_r v k s behind_x behind cut := by kernel_rfl

theorem fdiv_pos' (v : Int) {k : Int} (h : 0 ≤ k) : v.fdiv k = v / k := Int.fdiv_eq_ediv_of_nonneg _ h
theorem bytesV_len (u : Int) : ∀ m : Nat, (bytesV u m).length = m
  | 0 => rfl
  | m + 1 => by unfold bytesV; rw [List.length_cons, bytesV_len u m]
theorem bytesV_byt (u : Int) : ∀ m : Nat, byt (bytesV u m)
  | 0 => fun v hv => by cases hv
  | m + 1 => fun v hv => by
    unfold bytesV at hv
    rcases List.mem_cons.1 hv with h | h
    · rw [h, IntKind.wrap_u8]; omega
    · exact bytesV_byt u m v h
abbrev is17 (m : Nat) : Prop := m = 1 ∨ m = 2 ∨ m = 3 ∨ m = 4 ∨ m = 5 ∨ m = 6 ∨ m = 7
theorem take_bytes {u : Int} {m : Nat} (hm : is17 m) (h0 : 0 ≤ u) (h1 : u < 256 ^ m) : tkF (bytesV u m) = u := by
  show takeV 0 (bytesV u m) = u
  rcases hm with rfl | rfl | rfl | rfl | rfl | rfl | rfl <;>
    (simp only [bytesV, takeV, pw, IntKind.wrap_u8]
     rw [fdiv_pos' u (by decide : (0 : Int) ≤ 1)]
     try rw [fdiv_pos' u (by decide : (0 : Int) ≤ 256)]
     try rw [fdiv_pos' u (by decide : (0 : Int) ≤ 65536)]
     try rw [fdiv_pos' u (by decide : (0 : Int) ≤ 16777216)]
     try rw [fdiv_pos' u (by decide : (0 : Int) ≤ 4294967296)]
     try rw [fdiv_pos' u (by decide : (0 : Int) ≤ 1099511627776)]
     try rw [fdiv_pos' u (by decide : (0 : Int) ≤ 281474976710656)]
     omega)
theorem u_ok {v : Int} (h0 : 0 ≤ v) (h1 : v ≤ 18446744073709551615) {m : Nat} (hm : is17 m) :
    0 ≤ IntKind.i64.wrap (v.fdiv (2 ^ min (IntKind.i64.wrap (64 - IntKind.i64.wrap (8 * (m : Int)))).toNat 64)) ∧ IntKind.i64.wrap (v.fdiv (2 ^ min (IntKind.i64.wrap (64 - IntKind.i64.wrap (8 * (m : Int)))).toNat 64)) < 256 ^ m ∧ ¬ IntKind.i64.wrap (64 - IntKind.i64.wrap (8 * (m : Int))) < 0 := by
  rcases hm with rfl | rfl | rfl | rfl | rfl | rfl | rfl
  · have e : ((2 : Int) ^ min (IntKind.i64.wrap (64 - IntKind.i64.wrap (8 * ((1 : Nat) : Int)))).toNat 64) = 72057594037927936 := by decide
    rw [e, fdiv_pos' v (by decide), w64 (by omega) (by omega)]
    exact ⟨by omega, by omega, by decide⟩
  · have e : ((2 : Int) ^ min (IntKind.i64.wrap (64 - IntKind.i64.wrap (8 * ((2 : Nat) : Int)))).toNat 64) = 281474976710656 := by decide
    rw [e, fdiv_pos' v (by decide), w64 (by omega) (by omega)]
    exact ⟨by omega, by omega, by decide⟩
  · have e : ((2 : Int) ^ min (IntKind.i64.wrap (64 - IntKind.i64.wrap (8 * ((3 : Nat) : Int)))).toNat 64) = 1099511627776 := by decide
    rw [e, fdiv_pos' v (by decide), w64 (by omega) (by omega)]
    exact ⟨by omega, by omega, by decide⟩
  · have e : ((2 : Int) ^ min (IntKind.i64.wrap (64 - IntKind.i64.wrap (8 * ((4 : Nat) : Int)))).toNat 64) = 4294967296 := by decide
    rw [e, fdiv_pos' v (by decide), w64 (by omega) (by omega)]
    exact ⟨by omega, by omega, by decide⟩
  · have e : ((2 : Int) ^ min (IntKind.i64.wrap (64 - IntKind.i64.wrap (8 * ((5 : Nat) : Int)))).toNat 64) = 16777216 := by decide
    rw [e, fdiv_pos' v (by decide), w64 (by omega) (by omega)]
    exact ⟨by omega, by omega, by decide⟩
  · have e : ((2 : Int) ^ min (IntKind.i64.wrap (64 - IntKind.i64.wrap (8 * ((6 : Nat) : Int)))).toNat 64) = 65536 := by decide
    rw [e, fdiv_pos' v (by decide), w64 (by omega) (by omega)]
    exact ⟨by omega, by omega, by decide⟩
  · have e : ((2 : Int) ^ min (IntKind.i64.wrap (64 - IntKind.i64.wrap (8 * ((7 : Nat) : Int)))).toNat 64) = 256 := by decide
    rw [e, fdiv_pos' v (by decide), w64 (by omega) (by omega)]
    exact ⟨by omega, by omega, by decide⟩
theorem bitsBack_yes (v : Int) (k : Int) (s : List UInt8) (behind_x : Bool) (behind : List Int) (cut : Int) (h : Tu.wf bitsBack_fs (v, k, s, (behind_x, behind), cut)) : Yes (bitsBack_r v k s behind_x behind cut) := by
  obtain ⟨hv, hk, _, hbh, hcut⟩ := h
  have hv' : (0 : Int) ≤ v ∧ v ≤ 18446744073709551615 := hv
  have hk' : (0 : Int) ≤ k ∧ k ≤ 255 := hk
  have hcut' : (0 : Int) ≤ cut ∧ cut ≤ 255 := hcut
  have hB' : byt behind := wf8 hbh.2
  obtain ⟨m, hm, eN⟩ : ∃ m : Nat, is17 m ∧ IntKind.i64.wrap (1 + IntKind.i64.wrap (k.tmod 7)) = (m : Int) := by
    have t0 : 0 ≤ k.tmod 7 := Int.tmod_nonneg _ hk'.1
    have t1 : k.tmod 7 < 7 := Int.tmod_lt_of_pos _ (by omega)
    rw [w64 (n := k.tmod 7) (by omega) (by omega), w64 (by omega) (by omega)]
    obtain ⟨j, hj⟩ := Int.eq_ofNat_of_zero_le t0
    exact ⟨1 + j, by unfold is17; omega, by omega⟩
  have hm17 : 1 ≤ m ∧ m ≤ 7 := by unfold is17 at hm; omega
  have eC : IntKind.i64.wrap cut = cut := w64 (by omega) (by omega)
  unfold bitsBack_r
  refine oK_fsq begunS () trivial ?_
  refine bK_iq (fun _ => yes_leaf) (fun c1 => ?_)
  refine bK_iq (fun _ => yes_leaf) (fun c2 => ?_)
  have hs : s.length ≤ 255 := by omega
  have hBl : behind.length ≤ 20 := by simp only [List.length_map] at c2; omega
  simp only [eN, eC]
  obtain ⟨hu0, hu1, hsh⟩ := u_ok hv'.1 hv'.2 hm
  have hu2 := take_bytes hm hu0 hu1
  refine bK_fq (decide_eq_false hsh) ?_
  generalize IntKind.i64.wrap (v.fdiv (2 ^ min (IntKind.i64.wrap (64 - IntKind.i64.wrap (8 * (m : Int)))).toNat 64)) = u at hu0 hu1 hu2 ⊢
  refine oK_fsq putBS ((true, []), u, (m : Int)) (by show (0 : Nat) ≤ 10000; decide) ?_
  refine oK_fsq textBS ((true, []), s) (by show (0 : Nat) ≤ 10000; decide) ?_
  have eX : putF ((true, []), u, (m : Int)) = (false, bytesV u m) := by
    unfold putF putL; dsimp only; rw [if_pos (by omega), decide_eq_true (by omega)]; rfl
  have eY : textF ((true, []), s) = (false, (s.length : Int) :: s.map fun c => (c.toNat : Int)) := by
    unfold textF textL; dsimp only; rw [if_pos hs, decide_eq_true hs, w8 (by omega) (by omega)]; rfl
  have hXl := bytesV_len u m
  have hXb := bytesV_byt u m
  rw [eX, eY]
  dsimp only
  generalize bytesV u m = X at hu2 hXl hXb ⊢
  obtain ⟨Y, hY⟩ : ∃ Y : List Int, ((s.length : Int) :: s.map fun c => (c.toNat : Int)) = Y := ⟨_, rfl⟩
  have hYl : Y.length = s.length + 1 := by rw [← hY]; simp
  have hYb : byt Y := by
    rw [← hY]
    intro z hz
    rcases List.mem_cons.1 hz with e | e
    · rw [e]; omega
    · obtain ⟨c, _, rfl⟩ := List.mem_map.1 e
      have := c.toNat_lt
      omega
  have hYt : ∀ B : List Int, ttF (false, Y ++ B) = (s, (s.length : Int) + 1, true) := fun B => by
    show ttL (Y ++ B) = _
    have g0 : (Y ++ B).getD 0 0 = (s.length : Int) := by rw [← hY]; rfl
    rw [ttL_yes (by rw [g0, List.length_append, hYl]; omega), g0, ← hY, Int.toNat_natCast]
    have e1 : List.take s.length (List.drop 1 (((s.length : Int) :: s.map fun c => (c.toNat : Int)) ++ B)) = s.map fun c => (c.toNat : Int) := by
      show List.take s.length ((s.map fun c => (c.toNat : Int)) ++ B) = _
      rw [List.take_append_of_le_length (by simp), List.take_of_length_le (by simp)]
    rw [e1, List.map_map]
    have e2 : (List.map ((fun n : Int => UInt8.ofNat n.toNat) ∘ fun c : UInt8 => (c.toNat : Int)) s) = s := by
      conv => rhs; rw [← List.map_id s]
      refine List.map_congr_left (fun c _ => ?_)
      simp
    rw [e2]
  have hYc : ∀ (q : Bool) (j : Nat), j < Y.length → (ttF (q, Y.take j)).2.2 = false := fun q j hj => by
    show (ttL (Y.take j)).2.2 = false
    rw [ttL_no]
    cases j with
    | zero => simp
    | succ j =>
      have g0 : (Y.take (j + 1)).getD 0 0 = (s.length : Int) := by rw [← hY]; rfl
      rw [g0, List.length_take]
      omega
  have hXt : ∀ (q : Bool) (B : List Int), takeF ((q, X ++ B), (m : Int)) = (u, true) := fun q B => by
    show takeL (X ++ B) (m : Int) = _
    rw [takeL_yes (by rw [List.length_append]; omega), Int.toNat_natCast, List.take_append_of_le_length (by omega), List.take_of_length_le (by omega), hu2]
  have hXc : ∀ (q : Bool) (j : Nat), j < X.length → (takeF ((q, X.take j), (m : Int))).2 = false := fun q j hj => by
    show (takeL (X.take j) (m : Int)).2 = false
    rw [takeL_no (by rw [List.length_take]; omega)]
  rw [hY]
  simp only [List.nil_append, Nat.zero_add, Bool.true_and, List.length_map, List.drop_zero, Nat.sub_zero, hXl, hYl]
  have hj1 : 0 ≤ cut.tmod (m : Int) := Int.tmod_nonneg _ hcut'.1
  have hj2 : cut.tmod (m : Int) < (m : Int) := Int.tmod_lt_of_pos _ (by omega)
  have hj3 : 0 ≤ cut.tmod ((s.length + 1 : Nat) : Int) := Int.tmod_nonneg _ hcut'.1
  have hj4 : cut.tmod ((s.length + 1 : Nat) : Int) < ((s.length + 1 : Nat) : Int) := Int.tmod_lt_of_pos _ (by omega)
  have hXe : (List.map (mkV false [Lf.fi IntKind.u8]) X).isEmpty = false := by
    cases X with
    | nil => simp at hXl; omega
    | cons a X => rfl
  have hYe : (List.map (mkV false [Lf.fi IntKind.u8]) Y).isEmpty = false := by rw [← hY]; rfl
  have tX : List.take m (List.map (mkV false [Lf.fi IntKind.u8]) X) = List.map (mkV false [Lf.fi IntKind.u8]) X := List.take_of_length_le (by rw [List.length_map]; omega)
  have tY : List.take (s.length + 1) (List.map (mkV false [Lf.fi IntKind.u8]) Y) = List.map (mkV false [Lf.fi IntKind.u8]) Y := List.take_of_length_le (by rw [List.length_map]; omega)
  have tXB : List.take (m + behind.length) (List.map (mkV false [Lf.fi IntKind.u8]) X ++ List.map (mkV false [Lf.fi IntKind.u8]) behind) = List.map (mkV false [Lf.fi IntKind.u8]) (X ++ behind) := by
    rw [← List.map_append, List.take_of_length_le (by simp; omega)]
  have tYB : List.take (s.length + 1 + behind.length) (List.map (mkV false [Lf.fi IntKind.u8]) Y ++ List.map (mkV false [Lf.fi IntKind.u8]) behind) = List.map (mkV false [Lf.fi IntKind.u8]) (Y ++ behind) := by
    rw [← List.map_append, List.take_of_length_le (by simp; omega)]
  have bXB : ∀ B : List Int, byt B → byt (X ++ B) := fun B h z hz => by
    rcases List.mem_append.1 hz with e | e
    · exact hXb z e
    · exact h z e
  have bYB : ∀ B : List Int, byt B → byt (Y ++ B) := fun B h z hz => by
    rcases List.mem_append.1 hz with e | e
    · exact hYb z e
    · exact h z e
  have bN : byt ([] : List Int) := fun z hz => by cases hz
  simp only [tX, tY, tXB, tYB, ← List.map_take]
  refine bK_fq (by simp) (bK_fq (by rw [w64 (by omega) (by omega)]; exact nd (by omega)) ?_)
  refine bK_tq (allB X) (bK_fq hXe (bK_tq (fit5 (by omega)) (bK_tq (allB behind) (bK_tq (by simp) ?_))))
  refine bK_bq (fun hBe => ?_) (fun hBe => ?_)
  · have eB : behind = [] := by cases behind with
    | nil => rfl
    | cons a l => cases hBe
    have eX0 : List.map (mkV false [Lf.fi IntKind.u8]) X = List.map (mkV false [Lf.fi IntKind.u8]) (X ++ []) := by rw [List.append_nil]
    have eY0 : List.map (mkV false [Lf.fi IntKind.u8]) Y = List.map (mkV false [Lf.fi IntKind.u8]) (Y ++ []) := by rw [List.append_nil]
    try refine bK_tq (by first | (simp; done) | (simp; omega)) ?_
    try simp only [tX]
    rw [eX0]
    refine oK_fsq takeBS ((false, X ++ []), (m : Int)) (bXB [] bN) ?_
    refine bK_tq (allB Y) (bK_fq hYe (bK_tq (fit5 (by omega)) (bK_tq (allB behind) (bK_tq (by first | (simp; done) | (simp; omega)) ?_))))
    refine bK_tq hBe ?_
    try refine bK_tq (by first | (simp; done) | (simp; omega)) ?_
    rw [eY0]
    refine oK_fsq takeTS (false, Y ++ []) (bYB [] bN) ?_
    refine bK_fq (decide_eq_false (by omega)) (bK_tq (allB _) (bK_tq (decide_eq_true hj1) (bK_tq (decide_eq_true ⟨Nat.zero_le _, by omega⟩) ?_)))
    refine oK_fsq takeBS ((false && decide ((cut.tmod (m : Int)).toNat = m), X.take (cut.tmod (m : Int)).toNat), (m : Int)) (byt_take hXb _) ?_
    refine bK_fq (decide_eq_false (by omega)) (bK_tq (allB _) (bK_tq (decide_eq_true hj3) (bK_tq (decide_eq_true ⟨Nat.zero_le _, by omega⟩) ?_)))
    refine oK_fsq takeTS ((false && decide ((cut.tmod ((s.length + 1 : Nat) : Int)).toNat = s.length + 1)), Y.take (cut.tmod ((s.length + 1 : Nat) : Int)).toNat) (byt_take hYb _) ?_
    have a1 := hXt false []
    have a2 := hYt []
    have a3 := hXc (false && decide ((cut.tmod (m : Int)).toNat = m)) (cut.tmod (m : Int)).toNat (by omega)
    have a4 := hYc (false && decide ((cut.tmod ((s.length + 1 : Nat) : Int)).toNat = s.length + 1)) (cut.tmod ((s.length + 1 : Nat) : Int)).toNat (by omega)
    exact bK_tq (congrArg Prod.snd a1) (bK_tq (decide_eq_true (congrArg Prod.fst a1)) (bK_tq (congrArg (fun z => z.2.2) a2) (bK_tq (decide_eq_true (congrArg (fun z => z.1) a2)) (bK_tq (decide_eq_true ((congrArg (fun z => z.2.1) a2).trans (by simp))) (bK_tq (congrArg Bool.not a3) (yes_of (congrArg Bool.not a4)))))))
  · refine bK_tq (by first | (simp [fit5 (show m + behind.length ≤ 1000000 by omega)]; done) | (simp [fit5 (show m + behind.length ≤ 1000000 by omega)]; omega)) (bK_tq (by first | (simp; done) | (simp; omega)) ?_)
    refine oK_fsq takeBS ((false, X ++ behind), (m : Int)) (bXB behind hB') ?_
    refine bK_tq (allB Y) (bK_fq hYe (bK_tq (fit5 (by omega)) (bK_tq (allB behind) (bK_tq (by first | (simp; done) | (simp; omega)) ?_))))
    refine bK_fq hBe ?_
    refine bK_tq (by first | (simp [fit5 (show s.length + 1 + behind.length ≤ 1000000 by omega)]; done) | (simp [fit5 (show s.length + 1 + behind.length ≤ 1000000 by omega)]; omega)) (bK_tq (by first | (simp; done) | (simp; omega)) ?_)
    refine oK_fsq takeTS (false, Y ++ behind) (bYB behind hB') ?_
    refine bK_fq (decide_eq_false (by omega)) (bK_tq (allB _) (bK_tq (decide_eq_true hj1) (bK_tq (decide_eq_true ⟨Nat.zero_le _, by omega⟩) ?_)))
    refine oK_fsq takeBS ((false && decide ((cut.tmod (m : Int)).toNat = m), X.take (cut.tmod (m : Int)).toNat), (m : Int)) (byt_take hXb _) ?_
    refine bK_fq (decide_eq_false (by omega)) (bK_tq (allB _) (bK_tq (decide_eq_true hj3) (bK_tq (decide_eq_true ⟨Nat.zero_le _, by omega⟩) ?_)))
    refine oK_fsq takeTS ((false && decide ((cut.tmod ((s.length + 1 : Nat) : Int)).toNat = s.length + 1)), Y.take (cut.tmod ((s.length + 1 : Nat) : Int)).toNat) (byt_take hYb _) ?_
    have a1 := hXt false behind
    have a2 := hYt behind
    have a3 := hXc (false && decide ((cut.tmod (m : Int)).toNat = m)) (cut.tmod (m : Int)).toNat (by omega)
    have a4 := hYc (false && decide ((cut.tmod ((s.length + 1 : Nat) : Int)).toNat = s.length + 1)) (cut.tmod ((s.length + 1 : Nat) : Int)).toNat (by omega)
    exact bK_tq (congrArg Prod.snd a1) (bK_tq (decide_eq_true (congrArg Prod.fst a1)) (bK_tq (congrArg (fun z => z.2.2) a2) (bK_tq (decide_eq_true (congrArg (fun z => z.1) a2)) (bK_tq (decide_eq_true ((congrArg (fun z => z.2.1) a2).trans (by simp))) (bK_tq (congrArg Bool.not a3) (yes_of (congrArg Bool.not a4)))))))

end Go.Proofs.Ytfmhhhmmpoophaa
