/- A part of the proof: contracts of functions. -/
import Derived.Test.YtihgfpggdkhhaaaO
import Derived.Test.YtihgfpggdkhhaaaAbAny

set_option linter.unusedVariables false
set_option linter.unusedSimpArgs false
set_option maxRecDepth 100000
namespace Go.Proofs.Ytihgfpggdkhhaaa
open Go Go.Ab
abbrev turn_id : Nat := 21
abbrev turn_sh : Shp := [some 3, none, none, none]
abbrev turn_fs : List Lf := [.fl true File_tfs, .fl true Mark_tfs, .fi .i64, .fi .u8, .fi .i64, .fi .i64]
abbrev turn_rsh : Shp := [some 3]
abbrev turn_rfs : List Lf := [.fl true File_tfs, .fl true Mark_tfs, .fi .i64]
noncomputable def turn_r (s_Files_x : Bool) (s_Files : List File_T) (s_Marks_x : Bool) (s_Marks : List Mark_T) (s_Epoch : Int) (how : Int) (f : Int) (to_ : Int) : Option Ret :=
  bK ((List.map (mkV true File_tfs) s_Files).all fun (y : AV) => decide (y.cells.length = 3))
  (bK (List.map (mkV true File_tfs) s_Files).isEmpty (bK ((List.map (mkV true Mark_tfs) s_Marks).all fun (y : AV) => decide (y.cells.length = 4)) (bK (List.map (mkV true Mark_tfs) s_Marks).isEmpty none (bK (true && bytesFit Try.prog 40 (0 + (List.map (mkV true Mark_tfs) s_Marks).length)) none none)) none)
    (bK (true && bytesFit Try.prog 56 (0 + (List.map (mkV true File_tfs) s_Files).length))
      (bK ((List.map (mkV true Mark_tfs) s_Marks).all fun (y : AV) => decide (y.cells.length = 4))
        (bK (List.map (mkV true Mark_tfs) s_Marks).isEmpty
          (bK (decide (0 + (0 + (List.map (mkV true File_tfs) s_Files).length) ≤ ([] ++ List.map (mkV true File_tfs) s_Files).length))
            (bK (decide ((↑(0 + (List.map (mkV true File_tfs) s_Files).length) : Int) = 0)) none
              (bK (decide (how.tmod 10 = 0)) (bK (decide (0 + (0 + (List.map (mkV true File_tfs) s_Files).length) ≤ ([] ++ List.map (mkV true File_tfs) s_Files).length)) (some { pan := false, res := AV.agg [AV.slc false (List.take (0 + (List.map (mkV true File_tfs) s_Files).length) (List.drop 0 ([] ++ List.map (mkV true File_tfs) s_Files))), AV.slc false [], AV.int IntKind.i64 to_], out := [], new := [] }) none)
                (bK (decide (how.tmod 10 = 1)) (bK (decide (0 ≤ (maxI f 0).tmod (↑(0 + (List.map (mkV true File_tfs) s_Files).length) : Int) ∧ (maxI f 0).tmod (↑(0 + (List.map (mkV true File_tfs) s_Files).length) : Int) < (↑(0 + (List.map (mkV true File_tfs) s_Files).length) : Int))) (bK (decide (0 + ((maxI f 0).tmod (↑(0 + (List.map (mkV true File_tfs) s_Files).length) : Int)).toNat < ([] ++ List.map (mkV true File_tfs) s_Files).length)) (oK (stRow ([] ++ List.map (mkV true File_tfs) s_Files) (0 + ((maxI f 0).tmod (↑(0 + (List.map (mkV true File_tfs) s_Files).length) : Int)).toNat) 1 [AV.int IntKind.i64 to_]) fun (d0 : List AV) => bK (decide (0 + (0 + (List.map (mkV true File_tfs) s_Files).length) ≤ d0.length)) (some { pan := false, res := AV.agg [AV.slc false (List.take (0 + (List.map (mkV true File_tfs) s_Files).length) (List.drop 0 d0)), AV.slc false [], AV.int IntKind.i64 s_Epoch], out := [], new := [] }) none) none) none)
                  (bK (decide (how.tmod 10 = 2)) (bK (decide (0 ≤ (maxI f 0).tmod (↑(0 + (List.map (mkV true File_tfs) s_Files).length) : Int) ∧ (maxI f 0).tmod (↑(0 + (List.map (mkV true File_tfs) s_Files).length) : Int) < (↑(0 + (List.map (mkV true File_tfs) s_Files).length) : Int))) (bK (decide (0 + ((maxI f 0).tmod (↑(0 + (List.map (mkV true File_tfs) s_Files).length) : Int)).toNat < ([] ++ List.map (mkV true File_tfs) s_Files).length)) (oK (stRow ([] ++ List.map (mkV true File_tfs) s_Files) (0 + ((maxI f 0).tmod (↑(0 + (List.map (mkV true File_tfs) s_Files).length) : Int)).toNat) 0 [AV.str [97]]) fun (d1 : List AV) => bK (decide (0 + (0 + (List.map (mkV true File_tfs) s_Files).length) ≤ d1.length)) (some { pan := false, res := AV.agg [AV.slc false (List.take (0 + (List.map (mkV true File_tfs) s_Files).length) (List.drop 0 d1)), AV.slc false [], AV.int IntKind.i64 s_Epoch], out := [], new := [] }) none) none) none)
                    (bK (decide (how.tmod 10 = 3)) (bK (decide (0 ≤ (maxI f 0).tmod (↑(0 + (List.map (mkV true File_tfs) s_Files).length) : Int) ∧ (maxI f 0).tmod (↑(0 + (List.map (mkV true File_tfs) s_Files).length) : Int) < (↑(0 + (List.map (mkV true File_tfs) s_Files).length) : Int))) (bK (decide (0 + ((maxI f 0).tmod (↑(0 + (List.map (mkV true File_tfs) s_Files).length) : Int)).toNat < ([] ++ List.map (mkV true File_tfs) s_Files).length)) (oK (stRow ([] ++ List.map (mkV true File_tfs) s_Files) (0 + ((maxI f 0).tmod (↑(0 + (List.map (mkV true File_tfs) s_Files).length) : Int)).toNat) 0 [AV.str [97, 32, 98]]) fun (d2 : List AV) => bK (decide (0 + (0 + (List.map (mkV true File_tfs) s_Files).length) ≤ d2.length)) (some { pan := false, res := AV.agg [AV.slc false (List.take (0 + (List.map (mkV true File_tfs) s_Files).length) (List.drop 0 d2)), AV.slc false [], AV.int IntKind.i64 s_Epoch], out := [], new := [] }) none) none) none)
                      (bK (decide (how.tmod 10 = 4))
                        (bK (decide (0 ≤ (maxI f 0).tmod (↑(0 + (List.map (mkV true File_tfs) s_Files).length) : Int) ∧ (maxI f 0).tmod (↑(0 + (List.map (mkV true File_tfs) s_Files).length) : Int) < (↑(0 + (List.map (mkV true File_tfs) s_Files).length) : Int)))
                          (bK (decide (0 + ((maxI f 0).tmod (↑(0 + (List.map (mkV true File_tfs) s_Files).length) : Int)).toNat < ([] ++ List.map (mkV true File_tfs) s_Files).length)) (oK (ldRow [Lf.fs] ([] ++ List.map (mkV true File_tfs) s_Files) (0 + ((maxI f 0).tmod (↑(0 + (List.map (mkV true File_tfs) s_Files).length) : Int)).toNat) 2) fun (d3 : List UInt8) => bK (decide (d3.length + 20 < 1000000000)) (bK (decide (0 ≤ (maxI f 0).tmod (↑(0 + (List.map (mkV true File_tfs) s_Files).length) : Int) ∧ (maxI f 0).tmod (↑(0 + (List.map (mkV true File_tfs) s_Files).length) : Int) < (↑(0 + (List.map (mkV true File_tfs) s_Files).length) : Int))) (bK (decide (0 + ((maxI f 0).tmod (↑(0 + (List.map (mkV true File_tfs) s_Files).length) : Int)).toNat < ([] ++ List.map (mkV true File_tfs) s_Files).length)) (oK (stRow ([] ++ List.map (mkV true File_tfs) s_Files) (0 + ((maxI f 0).tmod (↑(0 + (List.map (mkV true File_tfs) s_Files).length) : Int)).toNat) 2 [AV.str (d3 ++ [97, 110, 111, 116, 104, 101, 114, 32, 98, 111, 100, 121, 32, 111, 102, 32, 116, 104, 105, 115])]) fun (d4 : List AV) => bK (decide (0 + (0 + (List.map (mkV true File_tfs) s_Files).length) ≤ d4.length)) (some { pan := false, res := AV.agg [AV.slc false (List.take (0 + (List.map (mkV true File_tfs) s_Files).length) (List.drop 0 d4)), AV.slc false [], AV.int IntKind.i64 s_Epoch], out := [], new := [] }) none) none) none) none) none) none)
                        (bK (decide (how.tmod 10 = 5)) (bK (decide (0 ≤ ((maxI f 0).tmod (↑(0 + (List.map (mkV true File_tfs) s_Files).length) : Int)).tmod 3 ∧ ((maxI f 0).tmod (↑(0 + (List.map (mkV true File_tfs) s_Files).length) : Int)).tmod 3 < 0)) none none)
                          (bK (decide (how.tmod 10 = 6)) (bK (decide (0 ≤ ((maxI f 0).tmod (↑(0 + (List.map (mkV true File_tfs) s_Files).length) : Int)).tmod 3 ∧ ((maxI f 0).tmod (↑(0 + (List.map (mkV true File_tfs) s_Files).length) : Int)).tmod 3 < 0)) none none)
                            (bK (decide (how.tmod 10 = 7)) (bK (decide (0 ≤ (maxI f 0).tmod (↑(0 + (List.map (mkV true File_tfs) s_Files).length) : Int))) (bK (decide (0 ≤ ((maxI f 0).tmod (↑(0 + (List.map (mkV true File_tfs) s_Files).length) : Int)).toNat ∧ 0 + ((maxI f 0).tmod (↑(0 + (List.map (mkV true File_tfs) s_Files).length) : Int)).toNat ≤ ([] ++ List.map (mkV true File_tfs) s_Files).length)) (bK (decide (0 + (((maxI f 0).tmod (↑(0 + (List.map (mkV true File_tfs) s_Files).length) : Int)).toNat - 0) ≤ ([] ++ List.map (mkV true File_tfs) s_Files).length)) (some { pan := false, res := AV.agg [AV.slc false (List.take (((maxI f 0).tmod (↑(0 + (List.map (mkV true File_tfs) s_Files).length) : Int)).toNat - 0) (List.drop 0 ([] ++ List.map (mkV true File_tfs) s_Files))), AV.slc false [], AV.int IntKind.i64 s_Epoch], out := [], new := [] }) none) none) none)
                              (bK (decide (how.tmod 10 = 8)) (bK (decide (0 + (0 + (List.map (mkV true File_tfs) s_Files).length) ≤ ([] ++ List.map (mkV true File_tfs) s_Files).length)) (some { pan := false, res := AV.agg [AV.slc false (List.take (0 + (List.map (mkV true File_tfs) s_Files).length) (List.drop 0 ([] ++ List.map (mkV true File_tfs) s_Files))), AV.slc false [AV.agg [AV.int IntKind.i64 0, AV.int IntKind.i64 0, AV.int IntKind.i64 0, AV.int IntKind.i64 0]], AV.int IntKind.i64 s_Epoch], out := [], new := [] }) none) (bK (decide (0 + (0 + (List.map (mkV true File_tfs) s_Files).length) ≤ ([] ++ List.map (mkV true File_tfs) s_Files).length)) (some { pan := false, res := AV.agg [AV.slc false (List.take (0 + (List.map (mkV true File_tfs) s_Files).length) (List.drop 0 ([] ++ List.map (mkV true File_tfs) s_Files))), AV.slc false [], AV.int IntKind.i64 s_Epoch], out := [], new := [] }) none)))))))))))
            none)
          (bK (true && bytesFit Try.prog 40 (0 + (List.map (mkV true Mark_tfs) s_Marks).length))
            (bK (decide (0 + (0 + (List.map (mkV true File_tfs) s_Files).length) ≤ ([] ++ List.map (mkV true File_tfs) s_Files).length))
              (bK (decide ((↑(0 + (List.map (mkV true File_tfs) s_Files).length) : Int) = 0)) none
                (bK (decide (how.tmod 10 = 0)) (bK (decide (0 + (0 + (List.map (mkV true File_tfs) s_Files).length) ≤ ([] ++ List.map (mkV true File_tfs) s_Files).length)) (bK (decide (0 + (0 + (List.map (mkV true Mark_tfs) s_Marks).length) ≤ ([] ++ List.map (mkV true Mark_tfs) s_Marks).length)) (some { pan := false, res := AV.agg [AV.slc false (List.take (0 + (List.map (mkV true File_tfs) s_Files).length) (List.drop 0 ([] ++ List.map (mkV true File_tfs) s_Files))), AV.slc false (List.take (0 + (List.map (mkV true Mark_tfs) s_Marks).length) (List.drop 0 ([] ++ List.map (mkV true Mark_tfs) s_Marks))), AV.int IntKind.i64 to_], out := [], new := [] }) none) none)
                  (bK (decide (how.tmod 10 = 1)) (bK (decide (0 ≤ (maxI f 0).tmod (↑(0 + (List.map (mkV true File_tfs) s_Files).length) : Int) ∧ (maxI f 0).tmod (↑(0 + (List.map (mkV true File_tfs) s_Files).length) : Int) < (↑(0 + (List.map (mkV true File_tfs) s_Files).length) : Int))) (bK (decide (0 + ((maxI f 0).tmod (↑(0 + (List.map (mkV true File_tfs) s_Files).length) : Int)).toNat < ([] ++ List.map (mkV true File_tfs) s_Files).length)) (oK (stRow ([] ++ List.map (mkV true File_tfs) s_Files) (0 + ((maxI f 0).tmod (↑(0 + (List.map (mkV true File_tfs) s_Files).length) : Int)).toNat) 1 [AV.int IntKind.i64 to_]) fun (d5 : List AV) => bK (decide (0 + (0 + (List.map (mkV true File_tfs) s_Files).length) ≤ d5.length)) (bK (decide (0 + (0 + (List.map (mkV true Mark_tfs) s_Marks).length) ≤ ([] ++ List.map (mkV true Mark_tfs) s_Marks).length)) (some { pan := false, res := AV.agg [AV.slc false (List.take (0 + (List.map (mkV true File_tfs) s_Files).length) (List.drop 0 d5)), AV.slc false (List.take (0 + (List.map (mkV true Mark_tfs) s_Marks).length) (List.drop 0 ([] ++ List.map (mkV true Mark_tfs) s_Marks))), AV.int IntKind.i64 s_Epoch], out := [], new := [] }) none) none) none) none)
                    (bK (decide (how.tmod 10 = 2)) (bK (decide (0 ≤ (maxI f 0).tmod (↑(0 + (List.map (mkV true File_tfs) s_Files).length) : Int) ∧ (maxI f 0).tmod (↑(0 + (List.map (mkV true File_tfs) s_Files).length) : Int) < (↑(0 + (List.map (mkV true File_tfs) s_Files).length) : Int))) (bK (decide (0 + ((maxI f 0).tmod (↑(0 + (List.map (mkV true File_tfs) s_Files).length) : Int)).toNat < ([] ++ List.map (mkV true File_tfs) s_Files).length)) (oK (stRow ([] ++ List.map (mkV true File_tfs) s_Files) (0 + ((maxI f 0).tmod (↑(0 + (List.map (mkV true File_tfs) s_Files).length) : Int)).toNat) 0 [AV.str [97]]) fun (d6 : List AV) => bK (decide (0 + (0 + (List.map (mkV true File_tfs) s_Files).length) ≤ d6.length)) (bK (decide (0 + (0 + (List.map (mkV true Mark_tfs) s_Marks).length) ≤ ([] ++ List.map (mkV true Mark_tfs) s_Marks).length)) (some { pan := false, res := AV.agg [AV.slc false (List.take (0 + (List.map (mkV true File_tfs) s_Files).length) (List.drop 0 d6)), AV.slc false (List.take (0 + (List.map (mkV true Mark_tfs) s_Marks).length) (List.drop 0 ([] ++ List.map (mkV true Mark_tfs) s_Marks))), AV.int IntKind.i64 s_Epoch], out := [], new := [] }) none) none) none) none)
                      (bK (decide (how.tmod 10 = 3)) (bK (decide (0 ≤ (maxI f 0).tmod (↑(0 + (List.map (mkV true File_tfs) s_Files).length) : Int) ∧ (maxI f 0).tmod (↑(0 + (List.map (mkV true File_tfs) s_Files).length) : Int) < (↑(0 + (List.map (mkV true File_tfs) s_Files).length) : Int))) (bK (decide (0 + ((maxI f 0).tmod (↑(0 + (List.map (mkV true File_tfs) s_Files).length) : Int)).toNat < ([] ++ List.map (mkV true File_tfs) s_Files).length)) (oK (stRow ([] ++ List.map (mkV true File_tfs) s_Files) (0 + ((maxI f 0).tmod (↑(0 + (List.map (mkV true File_tfs) s_Files).length) : Int)).toNat) 0 [AV.str [97, 32, 98]]) fun (d7 : List AV) => bK (decide (0 + (0 + (List.map (mkV true File_tfs) s_Files).length) ≤ d7.length)) (bK (decide (0 + (0 + (List.map (mkV true Mark_tfs) s_Marks).length) ≤ ([] ++ List.map (mkV true Mark_tfs) s_Marks).length)) (some { pan := false, res := AV.agg [AV.slc false (List.take (0 + (List.map (mkV true File_tfs) s_Files).length) (List.drop 0 d7)), AV.slc false (List.take (0 + (List.map (mkV true Mark_tfs) s_Marks).length) (List.drop 0 ([] ++ List.map (mkV true Mark_tfs) s_Marks))), AV.int IntKind.i64 s_Epoch], out := [], new := [] }) none) none) none) none)
                        (bK (decide (how.tmod 10 = 4))
                          (bK (decide (0 ≤ (maxI f 0).tmod (↑(0 + (List.map (mkV true File_tfs) s_Files).length) : Int) ∧ (maxI f 0).tmod (↑(0 + (List.map (mkV true File_tfs) s_Files).length) : Int) < (↑(0 + (List.map (mkV true File_tfs) s_Files).length) : Int)))
                            (bK (decide (0 + ((maxI f 0).tmod (↑(0 + (List.map (mkV true File_tfs) s_Files).length) : Int)).toNat < ([] ++ List.map (mkV true File_tfs) s_Files).length))
                              (oK (ldRow [Lf.fs] ([] ++ List.map (mkV true File_tfs) s_Files) (0 + ((maxI f 0).tmod (↑(0 + (List.map (mkV true File_tfs) s_Files).length) : Int)).toNat) 2) fun (d8 : List UInt8) => bK (decide (d8.length + 20 < 1000000000)) (bK (decide (0 ≤ (maxI f 0).tmod (↑(0 + (List.map (mkV true File_tfs) s_Files).length) : Int) ∧ (maxI f 0).tmod (↑(0 + (List.map (mkV true File_tfs) s_Files).length) : Int) < (↑(0 + (List.map (mkV true File_tfs) s_Files).length) : Int))) (bK (decide (0 + ((maxI f 0).tmod (↑(0 + (List.map (mkV true File_tfs) s_Files).length) : Int)).toNat < ([] ++ List.map (mkV true File_tfs) s_Files).length)) (oK (stRow ([] ++ List.map (mkV true File_tfs) s_Files) (0 + ((maxI f 0).tmod (↑(0 + (List.map (mkV true File_tfs) s_Files).length) : Int)).toNat) 2 [AV.str (d8 ++ [97, 110, 111, 116, 104, 101, 114, 32, 98, 111, 100, 121, 32, 111, 102, 32, 116, 104, 105, 115])]) fun (d9 : List AV) => bK (decide (0 + (0 + (List.map (mkV true File_tfs) s_Files).length) ≤ d9.length)) (bK (decide (0 + (0 + (List.map (mkV true Mark_tfs) s_Marks).length) ≤ ([] ++ List.map (mkV true Mark_tfs) s_Marks).length)) (some { pan := false, res := AV.agg [AV.slc false (List.take (0 + (List.map (mkV true File_tfs) s_Files).length) (List.drop 0 d9)), AV.slc false (List.take (0 + (List.map (mkV true Mark_tfs) s_Marks).length) (List.drop 0 ([] ++ List.map (mkV true Mark_tfs) s_Marks))), AV.int IntKind.i64 s_Epoch], out := [], new := [] }) none) none) none) none) none) none)
                            none)
                          (bK (decide (how.tmod 10 = 5)) (bK (decide (0 ≤ ((maxI f 0).tmod (↑(0 + (List.map (mkV true File_tfs) s_Files).length) : Int)).tmod 3 ∧ ((maxI f 0).tmod (↑(0 + (List.map (mkV true File_tfs) s_Files).length) : Int)).tmod 3 < (↑(0 + (List.map (mkV true Mark_tfs) s_Marks).length) : Int))) (bK (decide (0 + (((maxI f 0).tmod (↑(0 + (List.map (mkV true File_tfs) s_Files).length) : Int)).tmod 3).toNat < ([] ++ List.map (mkV true Mark_tfs) s_Marks).length)) (oK (stRow ([] ++ List.map (mkV true Mark_tfs) s_Marks) (0 + (((maxI f 0).tmod (↑(0 + (List.map (mkV true File_tfs) s_Files).length) : Int)).tmod 3).toNat) 0 [AV.int IntKind.i64 to_]) fun (d10 : List AV) => bK (decide (0 + (0 + (List.map (mkV true File_tfs) s_Files).length) ≤ ([] ++ List.map (mkV true File_tfs) s_Files).length)) (bK (decide (0 + (0 + (List.map (mkV true Mark_tfs) s_Marks).length) ≤ d10.length)) (some { pan := false, res := AV.agg [AV.slc false (List.take (0 + (List.map (mkV true File_tfs) s_Files).length) (List.drop 0 ([] ++ List.map (mkV true File_tfs) s_Files))), AV.slc false (List.take (0 + (List.map (mkV true Mark_tfs) s_Marks).length) (List.drop 0 d10)), AV.int IntKind.i64 s_Epoch], out := [], new := [] }) none) none) none) none)
                            (bK (decide (how.tmod 10 = 6)) (bK (decide (0 ≤ ((maxI f 0).tmod (↑(0 + (List.map (mkV true File_tfs) s_Files).length) : Int)).tmod 3 ∧ ((maxI f 0).tmod (↑(0 + (List.map (mkV true File_tfs) s_Files).length) : Int)).tmod 3 < (↑(0 + (List.map (mkV true Mark_tfs) s_Marks).length) : Int))) (bK (decide (0 + (((maxI f 0).tmod (↑(0 + (List.map (mkV true File_tfs) s_Files).length) : Int)).tmod 3).toNat < ([] ++ List.map (mkV true Mark_tfs) s_Marks).length)) (oK (stRow ([] ++ List.map (mkV true Mark_tfs) s_Marks) (0 + (((maxI f 0).tmod (↑(0 + (List.map (mkV true File_tfs) s_Files).length) : Int)).tmod 3).toNat) 1 [AV.int IntKind.i64 to_]) fun (d11 : List AV) => bK (decide (0 + (0 + (List.map (mkV true File_tfs) s_Files).length) ≤ ([] ++ List.map (mkV true File_tfs) s_Files).length)) (bK (decide (0 + (0 + (List.map (mkV true Mark_tfs) s_Marks).length) ≤ d11.length)) (some { pan := false, res := AV.agg [AV.slc false (List.take (0 + (List.map (mkV true File_tfs) s_Files).length) (List.drop 0 ([] ++ List.map (mkV true File_tfs) s_Files))), AV.slc false (List.take (0 + (List.map (mkV true Mark_tfs) s_Marks).length) (List.drop 0 d11)), AV.int IntKind.i64 s_Epoch], out := [], new := [] }) none) none) none) none)
                              (bK (decide (how.tmod 10 = 7)) (bK (decide (0 ≤ (maxI f 0).tmod (↑(0 + (List.map (mkV true File_tfs) s_Files).length) : Int))) (bK (decide (0 ≤ ((maxI f 0).tmod (↑(0 + (List.map (mkV true File_tfs) s_Files).length) : Int)).toNat ∧ 0 + ((maxI f 0).tmod (↑(0 + (List.map (mkV true File_tfs) s_Files).length) : Int)).toNat ≤ ([] ++ List.map (mkV true File_tfs) s_Files).length)) (bK (decide (0 + (((maxI f 0).tmod (↑(0 + (List.map (mkV true File_tfs) s_Files).length) : Int)).toNat - 0) ≤ ([] ++ List.map (mkV true File_tfs) s_Files).length)) (bK (decide (0 + (0 + (List.map (mkV true Mark_tfs) s_Marks).length) ≤ ([] ++ List.map (mkV true Mark_tfs) s_Marks).length)) (some { pan := false, res := AV.agg [AV.slc false (List.take (((maxI f 0).tmod (↑(0 + (List.map (mkV true File_tfs) s_Files).length) : Int)).toNat - 0) (List.drop 0 ([] ++ List.map (mkV true File_tfs) s_Files))), AV.slc false (List.take (0 + (List.map (mkV true Mark_tfs) s_Marks).length) (List.drop 0 ([] ++ List.map (mkV true Mark_tfs) s_Marks))), AV.int IntKind.i64 s_Epoch], out := [], new := [] }) none) none) none) none)
                                (bK (decide (how.tmod 10 = 8)) (bK (decide (0 + (0 + (List.map (mkV true Mark_tfs) s_Marks).length) ≤ ([] ++ List.map (mkV true Mark_tfs) s_Marks).length)) (bK (decide (0 = 0 ∧ 0 + (List.map (mkV true Mark_tfs) s_Marks).length = ([] ++ List.map (mkV true Mark_tfs) s_Marks).length) && bytesFit Try.prog 40 (0 + (List.map (mkV true Mark_tfs) s_Marks).length + 1)) (bK (decide (0 + (0 + (List.map (mkV true File_tfs) s_Files).length) ≤ ([] ++ List.map (mkV true File_tfs) s_Files).length)) (bK (decide (0 + (0 + (List.map (mkV true Mark_tfs) s_Marks).length + 1) ≤ (List.take (0 + (List.map (mkV true Mark_tfs) s_Marks).length) ([] ++ List.map (mkV true Mark_tfs) s_Marks) ++ [AV.agg [AV.int IntKind.i64 0, AV.int IntKind.i64 0, AV.int IntKind.i64 0, AV.int IntKind.i64 0]]).length)) (some { pan := false, res := AV.agg [AV.slc false (List.take (0 + (List.map (mkV true File_tfs) s_Files).length) (List.drop 0 ([] ++ List.map (mkV true File_tfs) s_Files))), AV.slc false (List.take (0 + (List.map (mkV true Mark_tfs) s_Marks).length + 1) (List.drop 0 (List.take (0 + (List.map (mkV true Mark_tfs) s_Marks).length) ([] ++ List.map (mkV true Mark_tfs) s_Marks) ++ [AV.agg [AV.int IntKind.i64 0, AV.int IntKind.i64 0, AV.int IntKind.i64 0, AV.int IntKind.i64 0]]))), AV.int IntKind.i64 s_Epoch], out := [], new := [] }) none) none) none) none)
                                  (bK (decide (0 + (0 + (List.map (mkV true File_tfs) s_Files).length) ≤ ([] ++ List.map (mkV true File_tfs) s_Files).length)) (bK (decide (0 + (0 + (List.map (mkV true Mark_tfs) s_Marks).length) ≤ ([] ++ List.map (mkV true Mark_tfs) s_Marks).length)) (some { pan := false, res := AV.agg [AV.slc false (List.take (0 + (List.map (mkV true File_tfs) s_Files).length) (List.drop 0 ([] ++ List.map (mkV true File_tfs) s_Files))), AV.slc false (List.take (0 + (List.map (mkV true Mark_tfs) s_Marks).length) (List.drop 0 ([] ++ List.map (mkV true Mark_tfs) s_Marks))), AV.int IntKind.i64 s_Epoch], out := [], new := [] }) none) none)))))))))))
              none)
            none))
        none)
      none))
  none
theorem turn_w (s_Files_x : Bool) (s_Files : List File_T) (s_Marks_x : Bool) (s_Marks : List Mark_T) (s_Epoch : Int) (how : Int) (f : Int) (to_ : Int) : unitQ Try.prog cfg H3 LP0 false 21 (groupA turn_sh (Tu.mk turn_fs ((s_Files_x, s_Files), (s_Marks_x, s_Marks), s_Epoch, how, f, to_))) [] = turn_r s_Files_x s_Files s_Marks_x s_Marks s_Epoch how f to_ := by kernel_rfl

def mrH (s : State_T) (i : Int) : St := { fr := [(1, .ptr 16 0 0 0), (3, .int .i64 i)], bs := [(16, boxB (Tu.mk State_tfs s))], df := [] }
noncomputable def mr_s (s : State_T) (i : Int) : Option (St ⊕ (Ex × St)) := stepK Try.prog cfg H3 LP0 25 0 (mrH s i)
noncomputable def mr_s_r (s : State_T) (i : Int) : Option (St ⊕ Ex × St) :=
  bK (decide (i < (↑(List.map (mkV true File_tfs) s.fst.snd).length : Int)))
  (oK (elemAt true File_tfs (List.map (mkV true File_tfs) s.fst.snd) i) fun (d0 : List UInt8 × Int × List UInt8) =>
    bK (decide (d0.fst = []) && (decide (d0.snd.fst = 0) && (decide (d0.snd.snd = []) && true))) (some (Sum.inl { fr := [(1, AV.ptr 16 0 0 0), (3, AV.int IntKind.i64 (IntKind.i64.wrap (i + 1)))], bs := [(16, { v := 0, k := BK.box, fz := false, sz := 0, es := [AV.slc s.fst.fst (List.map (mkV true File_tfs) s.fst.snd), AV.slc s.snd.fst.fst (List.map (mkV true Mark_tfs) s.snd.fst.snd), AV.int IntKind.i64 s.snd.snd] })], df := [] }))
      (oK (findS.dec [AV.slc s.fst.fst (List.map (mkV true File_tfs) s.fst.snd), AV.str d0.fst] []) fun (d1 : (Bool × List (List UInt8 × Int × List UInt8)) × List UInt8) =>
        oK (mayNS.dec [AV.str d0.fst] []) fun (d2 : List UInt8) =>
          bK (!mayNF d2) (some (Sum.inr (Ex.ret, { fr := [(1, AV.ptr 16 0 0 0), (2, AV.bool false)], bs := [(16, { v := 0, k := BK.box, fz := false, sz := 0, es := [AV.slc s.fst.fst (List.map (mkV true File_tfs) s.fst.snd), AV.slc s.snd.fst.fst (List.map (mkV true Mark_tfs) s.snd.fst.snd), AV.int IntKind.i64 s.snd.snd] })], df := [] })))
            (bK (!decide ((findF d1.fst.snd d1.snd).fst = IntKind.i64.wrap (i + 1))) (some (Sum.inr (Ex.ret, { fr := [(1, AV.ptr 16 0 0 0), (2, AV.bool false)], bs := [(16, { v := 0, k := BK.box, fz := false, sz := 0, es := [AV.slc s.fst.fst (List.map (mkV true File_tfs) s.fst.snd), AV.slc s.snd.fst.fst (List.map (mkV true Mark_tfs) s.snd.fst.snd), AV.int IntKind.i64 s.snd.snd] })], df := [] })))
              (bK (decide (d0.snd.fst < 1)) (some (Sum.inr (Ex.ret, { fr := [(1, AV.ptr 16 0 0 0), (2, AV.bool false)], bs := [(16, { v := 0, k := BK.box, fz := false, sz := 0, es := [AV.slc s.fst.fst (List.map (mkV true File_tfs) s.fst.snd), AV.slc s.snd.fst.fst (List.map (mkV true Mark_tfs) s.snd.fst.snd), AV.int IntKind.i64 s.snd.snd] })], df := [] })))
                (bK (decide (0 ≤ d0.snd.fst)) (bK (!decide (d0.snd.fst ≤ 1073741824)) (some (Sum.inr (Ex.ret, { fr := [(1, AV.ptr 16 0 0 0), (2, AV.bool false)], bs := [(16, { v := 0, k := BK.box, fz := false, sz := 0, es := [AV.slc s.fst.fst (List.map (mkV true File_tfs) s.fst.snd), AV.slc s.snd.fst.fst (List.map (mkV true Mark_tfs) s.snd.fst.snd), AV.int IntKind.i64 s.snd.snd] })], df := [] }))) (bK (decide (24 < (↑(List.length d0.snd.snd) : Int))) (some (Sum.inr (Ex.ret, { fr := [(1, AV.ptr 16 0 0 0), (2, AV.bool false)], bs := [(16, { v := 0, k := BK.box, fz := false, sz := 0, es := [AV.slc s.fst.fst (List.map (mkV true File_tfs) s.fst.snd), AV.slc s.snd.fst.fst (List.map (mkV true Mark_tfs) s.snd.fst.snd), AV.int IntKind.i64 s.snd.snd] })], df := [] }))) (some (Sum.inl { fr := [(1, AV.ptr 16 0 0 0), (3, AV.int IntKind.i64 (IntKind.i64.wrap (i + 1)))], bs := [(16, { v := 0, k := BK.box, fz := false, sz := 0, es := [AV.slc s.fst.fst (List.map (mkV true File_tfs) s.fst.snd), AV.slc s.snd.fst.fst (List.map (mkV true Mark_tfs) s.snd.fst.snd), AV.int IntKind.i64 s.snd.snd] })], df := [] })))) (some (Sum.inr (Ex.ret, { fr := [(1, AV.ptr 16 0 0 0), (2, AV.bool false)], bs := [(16, { v := 0, k := BK.box, fz := false, sz := 0, es := [AV.slc s.fst.fst (List.map (mkV true File_tfs) s.fst.snd), AV.slc s.snd.fst.fst (List.map (mkV true Mark_tfs) s.snd.fst.snd), AV.int IntKind.i64 s.snd.snd] })], df := [] }))))))))
  (some (Sum.inr (Ex.exit 0, { fr := [(1, AV.ptr 16 0 0 0)], bs := [(16, { v := 0, k := BK.box, fz := false, sz := 0, es := [AV.slc s.fst.fst (List.map (mkV true File_tfs) s.fst.snd), AV.slc s.snd.fst.fst (List.map (mkV true Mark_tfs) s.snd.fst.snd), AV.int IntKind.i64 s.snd.snd] })], df := [] })))
theorem mr_s_w (s : State_T) (i : Int) : mr_s s i = mr_s_r s i := by kernel_rfl

abbrev WaD : Type := (Bool × List Int) × (Bool × List Int) × List UInt8 × (Bool × List Write_T) × Int × Int × Int × Int × Int
def waH (d : WaD) (i : Int) : St := { fr := [(0, .slc d.1.1 (d.1.2.map (mkV false [.fi .u8]))), (1, .slc d.2.1.1 (d.2.1.2.map (mkV false [.fi .u8]))), (2, .str d.2.2.1), (3, .slc d.2.2.2.1.1 (d.2.2.2.1.2.map (mkV true Write_tfs))), (4, .int .u8 d.2.2.2.2.1), (5, .int .u8 d.2.2.2.2.2.1), (6, .int .u8 d.2.2.2.2.2.2.1), (7, .int .u8 d.2.2.2.2.2.2.2.1), (8, .int .i64 d.2.2.2.2.2.2.2.2), (19, .int .i64 i)], bs := [], df := [] }
noncomputable def wa_s (d : WaD) (i : Int) : Option (St ⊕ (Ex × St)) := stepK Try.prog cfg H3 LP0 3 0 (waH d i)
noncomputable def wa_s_r (d : WaD) (i : Int) : Option (St ⊕ Ex × St) :=
  bK (decide (i < (↑(List.map (mkV true Write_tfs) d.snd.snd.snd.fst.snd).length : Int)))
  (oK (elemAt true Write_tfs (List.map (mkV true Write_tfs) d.snd.snd.snd.fst.snd) i) fun (d0 : Int × List UInt8) => bK (decide (40 < (↑(List.length d0.snd) : Int))) (some (Sum.inr (Ex.ret, { fr := [(0, AV.slc d.fst.fst (List.map (mkV false [Lf.fi IntKind.u8]) d.fst.snd)), (1, AV.slc d.snd.fst.fst (List.map (mkV false [Lf.fi IntKind.u8]) d.snd.fst.snd)), (2, AV.str d.snd.snd.fst), (3, AV.slc d.snd.snd.snd.fst.fst (List.map (mkV true Write_tfs) d.snd.snd.snd.fst.snd)), (4, AV.int IntKind.u8 d.snd.snd.snd.snd.fst), (5, AV.int IntKind.u8 d.snd.snd.snd.snd.snd.fst), (6, AV.int IntKind.u8 d.snd.snd.snd.snd.snd.snd.fst), (7, AV.int IntKind.u8 d.snd.snd.snd.snd.snd.snd.snd.fst), (8, AV.int IntKind.i64 d.snd.snd.snd.snd.snd.snd.snd.snd), (18, AV.bool true)], bs := [], df := [] }))) (some (Sum.inl { fr := [(0, AV.slc d.fst.fst (List.map (mkV false [Lf.fi IntKind.u8]) d.fst.snd)), (1, AV.slc d.snd.fst.fst (List.map (mkV false [Lf.fi IntKind.u8]) d.snd.fst.snd)), (2, AV.str d.snd.snd.fst), (3, AV.slc d.snd.snd.snd.fst.fst (List.map (mkV true Write_tfs) d.snd.snd.snd.fst.snd)), (4, AV.int IntKind.u8 d.snd.snd.snd.snd.fst), (5, AV.int IntKind.u8 d.snd.snd.snd.snd.snd.fst), (6, AV.int IntKind.u8 d.snd.snd.snd.snd.snd.snd.fst), (7, AV.int IntKind.u8 d.snd.snd.snd.snd.snd.snd.snd.fst), (8, AV.int IntKind.i64 d.snd.snd.snd.snd.snd.snd.snd.snd), (19, AV.int IntKind.i64 (IntKind.i64.wrap (i + 1)))], bs := [], df := [] })))
  (some (Sum.inr (Ex.exit 0, { fr := [(0, AV.slc d.fst.fst (List.map (mkV false [Lf.fi IntKind.u8]) d.fst.snd)), (1, AV.slc d.snd.fst.fst (List.map (mkV false [Lf.fi IntKind.u8]) d.snd.fst.snd)), (2, AV.str d.snd.snd.fst), (3, AV.slc d.snd.snd.snd.fst.fst (List.map (mkV true Write_tfs) d.snd.snd.snd.fst.snd)), (4, AV.int IntKind.u8 d.snd.snd.snd.snd.fst), (5, AV.int IntKind.u8 d.snd.snd.snd.snd.snd.fst), (6, AV.int IntKind.u8 d.snd.snd.snd.snd.snd.snd.fst), (7, AV.int IntKind.u8 d.snd.snd.snd.snd.snd.snd.snd.fst), (8, AV.int IntKind.i64 d.snd.snd.snd.snd.snd.snd.snd.snd)], bs := [], df := [] })))
theorem wa_s_w (d : WaD) (i : Int) : wa_s d i = wa_s_r d i := by kernel_rfl

theorem posN_first {nm : List UInt8} : ∀ {l : List File_T} {k i : Nat}, i < l.length → (l.getD i zF).1 = nm → (posN nm l k = k + i + 1 ↔ ∀ a ∈ l.take i, a.1 ≠ nm)
  | a :: l, k, 0, _, h => by
    have h' : a.1 = nm := h
    unfold posN
    rw [if_pos h']
    simp
  | a :: l, k, i + 1, hi, h => by
    have h' : (l.getD i zF).1 = nm := h
    unfold posN
    rw [List.take_succ_cons]
    by_cases c : a.1 = nm
    · rw [if_pos c]
      constructor
      · intro e; omega
      · intro e; exact absurd c (e a (by simp))
    · rw [if_neg c]
      have := posN_first (k := k + 1) (by simpa using hi) h'
      rw [show k + (i + 1) + 1 = k + 1 + i + 1 by omega, this]
      constructor
      · intro e b hb
        rcases List.mem_cons.1 hb with hb | hb
        · rw [hb]; exact c
        · exact e b hb
      · intro e b hb; exact e b (by simp [hb])
theorem firstN_no {α : Type} {p : α → Bool} {l : List α} (h : firstN p l 0 = -1) : ∀ a ∈ l, p a = false := by
  rcases firstN_ge p l 0 (by omega) with ⟨_, h2⟩ | ⟨k, hk, h1, _⟩
  · exact h2
  · omega
theorem find_new {l : List File_T} {i : Nat} (hi : i < l.length) (hn : (l.getD i zF).1 ≠ []) (hm : mayNF (l.getD i zF).1 = true) : decide ((findF l (l.getD i zF).1).1 = ((i + 1 : Nat) : Int)) = fNew l i := by
  have e1 : fNew l i = decide (firstN (fun g : File_T => decide (g.1 = (l.getD i zF).1)) (l.take i) 0 = -1) := by
    show (decide _ || decide _) = _
    rw [decide_eq_false hn, Bool.false_or]
  rw [e1]
  have key := posN_first (k := 0) hi (rfl : (l.getD i zF).1 = (l.getD i zF).1)
  generalize hnm : (l.getD i zF).1 = nm at key hm hn ⊢
  have e2 : (findF l nm).1 = (posN nm l 0 : Int) := by
    unfold findF
    have e3 : findB l nm = (mayNF nm && !decide (posN nm l 0 = 0)) := rfl
    rw [e3, hm, Bool.true_and]
    by_cases c : posN nm l 0 = 0
    · rw [c]; rfl
    · rw [decide_eq_false c]; rfl
  rw [e2]
  refine decide_eq_decide.2 ⟨fun h => firstN_none fun a ha => decide_eq_false (key.1 (by omega) a ha), fun h => ?_⟩
  have := key.2 fun a ha => of_decide_eq_false (firstN_no h a ha)
  omega
theorem mr_step (s : State_T) (i : Nat) (hi : i < s.1.2.length) (hl : s.1.2.length ≤ 100000) (hn : ∀ f ∈ s.1.2, f.1.length ≤ 1000) : mr_s s i = if fAt s.1.2 i = true then some (.inl (mrH s ((i + 1 : Nat) : Int))) else some (.inr (mpN s)) := by
  refine (mr_s_w s i).trans ?_
  obtain ⟨⟨fx, l⟩, mk, ep⟩ := s
  simp only at hi hl hn ⊢
  have e1 : IntKind.i64.wrap ((i : Int) + 1) = ((i + 1 : Nat) : Int) := by rw [w64 (by omega) (by omega)]; omega
  have no : fAt l i = false → ∀ z : Option (St ⊕ (Ex × St)), z = some (.inr (mpN ((fx, l), mk, ep))) → z = if fAt l i = true then some (.inl (mrH ((fx, l), mk, ep) ((i + 1 : Nat) : Int))) else some (.inr (mpN ((fx, l), mk, ep))) := fun h z hz => by rw [hz, if_neg (by rw [h]; simp)]
  have yes : fAt l i = true → ∀ z : Option (St ⊕ (Ex × St)), z = some (.inl (mrH ((fx, l), mk, ep) ((i + 1 : Nat) : Int))) → z = if fAt l i = true then some (.inl (mrH ((fx, l), mk, ep) ((i + 1 : Nat) : Int))) else some (.inr (mpN ((fx, l), mk, ep))) := fun h z hz => by rw [hz, if_pos h]
  have bad : fOk (l.getD i zF) = false → fAt l i = false := fun h => by unfold fAt; rw [h]; rfl
  have hnm : (l.getD i zF).1.length ≤ 1000 := by rw [getD_at hi]; exact hn _ (List.getElem_mem hi)
  unfold mr_s_r
  rw [e1]
  refine bK_tq (Q := fun z => z = _) (by simp; omega) ?_
  refine oK_atq (Q := fun z => z = _) (fs := File_tfs) zF (by omega) (by rw [Int.toNat_natCast]; exact hi) ?_
  rw [Int.toNat_natCast]
  refine bK_bq (Q := fun z => z = _) (fun c0 => ?_) (fun c0 => ?_)
  · simp only [Bool.and_eq_true, decide_eq_true_eq, and_true] at c0
    refine yes ?_ _ rfl
    unfold fAt fOk fNew
    rw [if_pos c0.1, decide_eq_true (show l.getD i zF = zF from Prod.ext c0.1 (Prod.ext c0.2.1 c0.2.2)), decide_eq_true c0.1]
    rfl
  refine oK_fsq (Q := fun z => z = _) findS ((fx, l), (l.getD i zF).1) ⟨hl, hnm⟩ ?_
  refine oK_fsq (Q := fun z => z = _) mayNS (l.getD i zF).1 hnm ?_
  dsimp only
  have hz : l.getD i zF ≠ zF := fun h => by rw [h] at c0; simp [zF] at c0
  by_cases c1 : (l.getD i zF).1 = []
  · rw [bK_pos (by rw [c1]; rfl)]
    exact no (bad (by unfold fOk; rw [if_pos c1]; exact decide_eq_false hz)) _ rfl
  have key : fOk (l.getD i zF) = (mayNF (l.getD i zF).1 && decide (1 ≤ (l.getD i zF).2.1 ∧ (l.getD i zF).2.1 ≤ 1073741824 ∧ (l.getD i zF).2.2.length ≤ 24)) := by unfold fOk; rw [if_neg c1]
  by_cases c2 : mayNF (l.getD i zF).1 = true
  · rw [bK_neg (by rw [c2]; rfl), find_new hi c1 c2]
    rw [c2, Bool.true_and] at key
    by_cases c3 : fNew l i = true
    · rw [bK_neg (by rw [c3]; rfl)]
      refine bK_iq (Q := fun z => z = _) (fun c4 => no (bad (by rw [key, decide_eq_false (fun h => by omega)])) _ rfl) (fun c4 => ?_)
      refine bK_tq (Q := fun z => z = _) (decide_eq_true (by omega)) ?_
      refine bK_nq (Q := fun z => z = _) (fun c5 => no (bad (by rw [key, decide_eq_false (fun h => c5 h.2.1)])) _ rfl) (fun c5 => ?_)
      refine bK_iq (Q := fun z => z = _) (fun c6 => no (bad (by rw [key, decide_eq_false (fun h => by have := h.2.2; omega)])) _ rfl) (fun c6 => ?_)
      refine yes ?_ _ rfl
      unfold fAt
      rw [key, c3, decide_eq_true ⟨by omega, c5, by omega⟩]; rfl
    · have c3' : fNew l i = false := by simpa using c3
      rw [bK_pos (by rw [c3']; rfl)]
      exact no (by unfold fAt; rw [c3', Bool.and_false]) _ rfl
  · have c2' : mayNF (l.getD i zF).1 = false := by simpa using c2
    rw [bK_pos (by rw [c2']; rfl)]
    exact no (bad (by rw [key, c2']; rfl)) _ rfl
theorem mrl : (loopsOf 0 (codeOf Try.prog 25)).map (·.1) = [0, 2] := by kernel_rfl
theorem mro : OneLoops Try.prog 25 := by unfold OneLoops; rw [mrl]; decide
theorem mra : At 0 (codeOf Try.prog 25) 0 (.loop (bodyAt Try.prog 25 0)) := at_body mro (by rw [mrl]; decide)
theorem mra2 : At 0 (codeOf Try.prog 25) 2 (.loop (bodyAt Try.prog 25 2)) := at_body mro (by rw [mrl]; decide)
theorem mr_run (s : State_T) (hl : s.1.2.length ≤ 100000) (hn : ∀ f ∈ s.1.2, f.1.length ≤ 1000) : ∀ (j i : Nat), i + j = s.1.2.length → ∀ (m : Nat), j < m → Runs' Try.prog cfg H3 25 0 m (mrH s i) (if mayFrom s.1.2 j i = true then mpE s else mpN s)
  | 0, i, hi, m + 1, hm => by
    refine Runs'.done (lp := LP0) LPok.none mra ((mr_s_w s i).trans ?_)
    unfold mr_s_r
    rw [bK_neg (by simp; omega)]
    rfl
  | j + 1, i, hi, m + 1, hm => by
    have hs := mr_step s i (by omega) hl hn
    unfold mayFrom
    by_cases h : fAt s.1.2 i = true
    · rw [if_pos h] at hs
      rw [h, Bool.true_and]
      exact Runs'.step (lp := LP0) LPok.none mra hs (mr_run s hl hn j (i + 1) (by omega) m (by omega))
    · rw [if_neg h] at hs
      rw [show fAt s.1.2 i = false by simpa using h, Bool.false_and, if_neg (by simp)]
      exact Runs'.done (lp := LP0) LPok.none mra hs
def mrHd (s : State_T) : St := mrH s 0
noncomputable def mrL : LP := LP.of mrHd (fun s => s.1.2.length ≤ 100000 ∧ ∀ f ∈ s.1.2, f.1.length ≤ 1000) fun s => .ite (mayFsQ s.1.2) (.leaf (mpE s)) (.leaf (mpN s))
noncomputable def mrLP : LPs := LPs.add LP0 25 0 mrL
theorem mrLP_ok : LPok Try.prog cfg H3 mrLP 25 := LPok.addH LPok.none mro fun s h => mr_run s h.1 h.2 s.1.2.length 0 (by omega) rounds (by have := h.1; simp only [rounds]; omega)
theorem mrHd_inj (s t : State_T) (h : mrHd s = mrHd t) : s = t := by
  simp only [mrHd, mrH, boxB, St.mk.injEq, List.cons.injEq, Prod.mk.injEq, Blk.mk.injEq, and_true, true_and] at h
  exact mk_inj (fs := State_tfs) rfl h

end Go.Proofs.Ytihgfpggdkhhaaa
