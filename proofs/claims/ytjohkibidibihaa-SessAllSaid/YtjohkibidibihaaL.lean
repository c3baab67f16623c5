/- A part of the proof: contracts of functions. -/
import Derived.Test.YtjohkibidibihaaA
import Derived.Test.YtjohkibidibihaaAbLp
set_option linter.unusedVariables false
set_option linter.unusedSimpArgs false
set_option maxRecDepth 100000
namespace Go.Proofs.Ytjohkibidibihaa
open Go Go.Ab
abbrev sessAll_id : Nat := 3
abbrev sessAll_sh : Shp := [none, some 3, some 3, some 3, none, some 8, none, none, none]
abbrev sessAll_fs : List Lf := [.fl false [.fi .u8], .fi .u8, .fi .u8, .fi .u8, .fi .u8, .fi .u8, .fi .u8, .fi .u8, .fi .u8, .fi .u8, .fi .u8, .fi .i64, .fi .i64, .fi .i64, .fi .i64, .fs, .fi .i64, .fi .i64, .fl true Write_tfs, .fi .u8, .fi .u16, .fi .u16]
abbrev sessAll_rsh : Shp := [none]
abbrev sessAll_rfs : List Lf := [.fb]
noncomputable def sessAll_r (picks_x : Bool) (picks : List Int) (seen0 : Int) (seen1 : Int) (seen2 : Int) (told0 : Int) (told1 : Int) (told2 : Int) (marks0 : Int) (marks1 : Int) (marks2 : Int) (epoch : Int) (wild_Kind : Int) (wild_From : Int) (wild_Epoch : Int) (wild_Seq : Int) (wild_Name : List UInt8) (wild_File : Int) (wild_Mode : Int) (wild_Writes_x : Bool) (wild_Writes : List Write_T) (less : Int) (last : Int) (now : Int) : Option Ret :=
  oK (begunS.dec [] []) fun (d0 : PUnit) =>
  bK (decide (20 < (↑(List.map (mkV false [Lf.fi IntKind.u8]) picks).length : Int)))
    (some { pan := false, res := AV.bool true, out := [], new := [] })
    (bK (decide (less.tmod 8 = 0))
      (bK (decide (less.tmod 8 = 1))
        (oK
          (askS.dec [AV.ptr 1000000 0 0 0]
            [{ v := 0, k := BK.box, fz := false, sz := 0,
                es := [AV.slc picks_x (List.map (mkV false [Lf.fi IntKind.u8]) picks), AV.int IntKind.i64 0] }])
          fun (d1 : ((Bool × List Int) × Int) × PUnit) =>
          oK
            (ldRow Ask_tfs
              [AV.agg
                  [AV.int IntKind.i64 wild_Kind, AV.int IntKind.i64 wild_From, AV.int IntKind.i64 wild_Epoch,
                    AV.int IntKind.i64 wild_Seq, AV.str wild_Name, AV.int IntKind.i64 wild_File,
                    AV.int IntKind.i64 wild_Mode, AV.slc wild_Writes_x (List.map (mkV true Write_tfs) wild_Writes)],
                AV.agg
                  [AV.int IntKind.i64 (askF d1.fst).snd.fst, AV.int IntKind.i64 (askF d1.fst).snd.snd.fst,
                    AV.int IntKind.i64 (askF d1.fst).snd.snd.snd.fst,
                    AV.int IntKind.i64 (askF d1.fst).snd.snd.snd.snd.fst, AV.str (askF d1.fst).snd.snd.snd.snd.snd.fst,
                    AV.int IntKind.i64 (askF d1.fst).snd.snd.snd.snd.snd.snd.fst,
                    AV.int IntKind.i64 (askF d1.fst).snd.snd.snd.snd.snd.snd.snd.fst,
                    AV.slc (askF d1.fst).snd.snd.snd.snd.snd.snd.snd.snd.fst
                      (List.map (mkV true Write_tfs) (askF d1.fst).snd.snd.snd.snd.snd.snd.snd.snd.snd)]]
              0 0)
            fun (d2 : Int × Int × Int × Int × List UInt8 × Int × Int × Bool × List (Int × List UInt8)) =>
            oK
              (judgeS.dec
                [AV.int IntKind.i64 (IntKind.i64.wrap (epoch.tmod 3)),
                  AV.slc false
                    [AV.int IntKind.i64 (IntKind.i64.wrap (seen0.tmod 24)),
                      AV.int IntKind.i64 (IntKind.i64.wrap (seen1.tmod 24))],
                  AV.slc false
                    [AV.agg
                        [AV.int IntKind.i64 1, AV.int IntKind.i64 1, AV.int IntKind.i64 0,
                          AV.int IntKind.i64 (IntKind.i64.wrap (told0.tmod 24)),
                          AV.int IntKind.i64 (IntKind.i64.wrap (told0.tmod 3)), AV.int IntKind.i64 0,
                          AV.int IntKind.i64 0, AV.int IntKind.i64 0, AV.str []],
                      AV.agg
                        [AV.int IntKind.i64 1, AV.int IntKind.i64 2, AV.int IntKind.i64 0,
                          AV.int IntKind.i64 (IntKind.i64.wrap (told1.tmod 24)),
                          AV.int IntKind.i64 (IntKind.i64.wrap (told1.tmod 3)), AV.int IntKind.i64 0,
                          AV.int IntKind.i64 0, AV.int IntKind.i64 0, AV.str []]],
                  AV.slc false
                    [AV.agg
                        [AV.int IntKind.i64 (IntKind.i64.wrap (marks0.tmod 24)),
                          AV.int IntKind.i64 (IntKind.i64.wrap (marks0.tmod 4)), AV.int IntKind.i64 1,
                          AV.int IntKind.i64 7],
                      AV.agg
                        [AV.int IntKind.i64 (IntKind.i64.wrap (marks1.tmod 24)),
                          AV.int IntKind.i64 (IntKind.i64.wrap (marks1.tmod 4)), AV.int IntKind.i64 2,
                          AV.int IntKind.i64 7],
                      AV.agg
                        [AV.int IntKind.i64 (IntKind.i64.wrap (marks2.tmod 24)),
                          AV.int IntKind.i64 (IntKind.i64.wrap (marks2.tmod 4)), AV.int IntKind.i64 3,
                          AV.int IntKind.i64 7]],
                  AV.agg
                    [AV.int IntKind.i64 d2.fst, AV.int IntKind.i64 d2.snd.fst, AV.int IntKind.i64 d2.snd.snd.fst,
                      AV.int IntKind.i64 d2.snd.snd.snd.fst, AV.str d2.snd.snd.snd.snd.fst,
                      AV.int IntKind.i64 d2.snd.snd.snd.snd.snd.fst, AV.int IntKind.i64 d2.snd.snd.snd.snd.snd.snd.fst,
                      AV.slc d2.snd.snd.snd.snd.snd.snd.snd.fst
                        (List.map (mkV true Write_tfs) d2.snd.snd.snd.snd.snd.snd.snd.snd)]]
                [])
              fun
                (d3 :
                  Int ×
                    (Bool × List Int) ×
                      (Bool × List (Int × Int × Int × Int × Int × Int × Int × Int × List UInt8)) ×
                        (Bool × List (Int × Int × Int × Int)) ×
                          Int × Int × Int × Int × List UInt8 × Int × Int × Bool × List (Int × List UInt8)) =>
              oK
                (ldRow Ask_tfs
                  [AV.agg
                      [AV.int IntKind.i64 wild_Kind, AV.int IntKind.i64 wild_From, AV.int IntKind.i64 wild_Epoch,
                        AV.int IntKind.i64 wild_Seq, AV.str wild_Name, AV.int IntKind.i64 wild_File,
                        AV.int IntKind.i64 wild_Mode, AV.slc wild_Writes_x (List.map (mkV true Write_tfs) wild_Writes)],
                    AV.agg
                      [AV.int IntKind.i64 (askF d1.fst).snd.fst, AV.int IntKind.i64 (askF d1.fst).snd.snd.fst,
                        AV.int IntKind.i64 (askF d1.fst).snd.snd.snd.fst,
                        AV.int IntKind.i64 (askF d1.fst).snd.snd.snd.snd.fst,
                        AV.str (askF d1.fst).snd.snd.snd.snd.snd.fst,
                        AV.int IntKind.i64 (askF d1.fst).snd.snd.snd.snd.snd.snd.fst,
                        AV.int IntKind.i64 (askF d1.fst).snd.snd.snd.snd.snd.snd.snd.fst,
                        AV.slc (askF d1.fst).snd.snd.snd.snd.snd.snd.snd.snd.fst
                          (List.map (mkV true Write_tfs) (askF d1.fst).snd.snd.snd.snd.snd.snd.snd.snd.snd)]]
                  0 0)
                fun (d4 : Int × Int × Int × Int × List UInt8 × Int × Int × Bool × List (Int × List UInt8)) =>
                oK
                  (rjudgeS.dec
                    [AV.int IntKind.i64 (IntKind.i64.wrap (epoch.tmod 3)),
                      AV.slc false
                        [AV.int IntKind.i64 (IntKind.i64.wrap (seen0.tmod 24)),
                          AV.int IntKind.i64 (IntKind.i64.wrap (seen1.tmod 24))],
                      AV.slc false
                        [AV.agg
                            [AV.int IntKind.i64 1, AV.int IntKind.i64 1, AV.int IntKind.i64 0,
                              AV.int IntKind.i64 (IntKind.i64.wrap (told0.tmod 24)),
                              AV.int IntKind.i64 (IntKind.i64.wrap (told0.tmod 3)), AV.int IntKind.i64 0,
                              AV.int IntKind.i64 0, AV.int IntKind.i64 0, AV.str []],
                          AV.agg
                            [AV.int IntKind.i64 1, AV.int IntKind.i64 2, AV.int IntKind.i64 0,
                              AV.int IntKind.i64 (IntKind.i64.wrap (told1.tmod 24)),
                              AV.int IntKind.i64 (IntKind.i64.wrap (told1.tmod 3)), AV.int IntKind.i64 0,
                              AV.int IntKind.i64 0, AV.int IntKind.i64 0, AV.str []]],
                      AV.slc false
                        [AV.agg
                            [AV.int IntKind.i64 (IntKind.i64.wrap (marks0.tmod 24)),
                              AV.int IntKind.i64 (IntKind.i64.wrap (marks0.tmod 4)), AV.int IntKind.i64 1,
                              AV.int IntKind.i64 7],
                          AV.agg
                            [AV.int IntKind.i64 (IntKind.i64.wrap (marks1.tmod 24)),
                              AV.int IntKind.i64 (IntKind.i64.wrap (marks1.tmod 4)), AV.int IntKind.i64 2,
                              AV.int IntKind.i64 7],
                          AV.agg
                            [AV.int IntKind.i64 (IntKind.i64.wrap (marks2.tmod 24)),
                              AV.int IntKind.i64 (IntKind.i64.wrap (marks2.tmod 4)), AV.int IntKind.i64 3,
                              AV.int IntKind.i64 7]],
                      AV.agg
                        [AV.int IntKind.i64 d4.fst, AV.int IntKind.i64 d4.snd.fst, AV.int IntKind.i64 d4.snd.snd.fst,
                          AV.int IntKind.i64 d4.snd.snd.snd.fst, AV.str d4.snd.snd.snd.snd.fst,
                          AV.int IntKind.i64 d4.snd.snd.snd.snd.snd.fst,
                          AV.int IntKind.i64 d4.snd.snd.snd.snd.snd.snd.fst,
                          AV.slc d4.snd.snd.snd.snd.snd.snd.snd.fst
                            (List.map (mkV true Write_tfs) d4.snd.snd.snd.snd.snd.snd.snd.snd)]]
                    [])
                  fun
                    (d5 :
                      Int ×
                        (Bool × List Int) ×
                          (Bool × List (Int × Int × Int × Int × Int × Int × Int × Int × List UInt8)) ×
                            (Bool × List (Int × Int × Int × Int)) ×
                              Int × Int × Int × Int × List UInt8 × Int × Int × Bool × List (Int × List UInt8)) =>
                  bK (!decide ((judgeG d3).fst = (judgeG d5).fst))
                    (some { pan := false, res := AV.bool false, out := [], new := [] })
                    (bK
                      (!(decide ((judgeG d3).snd.fst = (judgeG d5).snd.fst) &&
                          (decide ((judgeG d3).snd.snd.fst = (judgeG d5).snd.snd.fst) &&
                            (decide ((judgeG d3).snd.snd.snd.fst = (judgeG d5).snd.snd.snd.fst) &&
                              (decide ((judgeG d3).snd.snd.snd.snd.fst = (judgeG d5).snd.snd.snd.snd.fst) &&
                                (decide ((judgeG d3).snd.snd.snd.snd.snd.fst = (judgeG d5).snd.snd.snd.snd.snd.fst) &&
                                  (decide
                                      ((judgeG d3).snd.snd.snd.snd.snd.snd.fst =
                                        (judgeG d5).snd.snd.snd.snd.snd.snd.fst) &&
                                    (decide
                                        ((judgeG d3).snd.snd.snd.snd.snd.snd.snd.fst =
                                          (judgeG d5).snd.snd.snd.snd.snd.snd.snd.fst) &&
                                      (decide
                                          ((judgeG d3).snd.snd.snd.snd.snd.snd.snd.snd.fst =
                                            (judgeG d5).snd.snd.snd.snd.snd.snd.snd.snd.fst) &&
                                        (decide
                                            ((judgeG d3).snd.snd.snd.snd.snd.snd.snd.snd.snd =
                                              (judgeG d5).snd.snd.snd.snd.snd.snd.snd.snd.snd) &&
                                          true))))))))))
                      (some { pan := false, res := AV.bool false, out := [], new := [] })
                      (oK
                        (ldRow Ask_tfs
                          [AV.agg
                              [AV.int IntKind.i64 wild_Kind, AV.int IntKind.i64 wild_From,
                                AV.int IntKind.i64 wild_Epoch, AV.int IntKind.i64 wild_Seq, AV.str wild_Name,
                                AV.int IntKind.i64 wild_File, AV.int IntKind.i64 wild_Mode,
                                AV.slc wild_Writes_x (List.map (mkV true Write_tfs) wild_Writes)],
                            AV.agg
                              [AV.int IntKind.i64 (askF d1.fst).snd.fst, AV.int IntKind.i64 (askF d1.fst).snd.snd.fst,
                                AV.int IntKind.i64 (askF d1.fst).snd.snd.snd.fst,
                                AV.int IntKind.i64 (askF d1.fst).snd.snd.snd.snd.fst,
                                AV.str (askF d1.fst).snd.snd.snd.snd.snd.fst,
                                AV.int IntKind.i64 (askF d1.fst).snd.snd.snd.snd.snd.snd.fst,
                                AV.int IntKind.i64 (askF d1.fst).snd.snd.snd.snd.snd.snd.snd.fst,
                                AV.slc (askF d1.fst).snd.snd.snd.snd.snd.snd.snd.snd.fst
                                  (List.map (mkV true Write_tfs) (askF d1.fst).snd.snd.snd.snd.snd.snd.snd.snd.snd)]]
                          1 0)
                        fun (d6 : Int × Int × Int × Int × List UInt8 × Int × Int × Bool × List (Int × List UInt8)) =>
                        oK
                          (judgeS.dec
                            [AV.int IntKind.i64 (IntKind.i64.wrap (epoch.tmod 3)),
                              AV.slc false
                                [AV.int IntKind.i64 (IntKind.i64.wrap (seen0.tmod 24)),
                                  AV.int IntKind.i64 (IntKind.i64.wrap (seen1.tmod 24))],
                              AV.slc false
                                [AV.agg
                                    [AV.int IntKind.i64 1, AV.int IntKind.i64 1, AV.int IntKind.i64 0,
                                      AV.int IntKind.i64 (IntKind.i64.wrap (told0.tmod 24)),
                                      AV.int IntKind.i64 (IntKind.i64.wrap (told0.tmod 3)), AV.int IntKind.i64 0,
                                      AV.int IntKind.i64 0, AV.int IntKind.i64 0, AV.str []],
                                  AV.agg
                                    [AV.int IntKind.i64 1, AV.int IntKind.i64 2, AV.int IntKind.i64 0,
                                      AV.int IntKind.i64 (IntKind.i64.wrap (told1.tmod 24)),
                                      AV.int IntKind.i64 (IntKind.i64.wrap (told1.tmod 3)), AV.int IntKind.i64 0,
                                      AV.int IntKind.i64 0, AV.int IntKind.i64 0, AV.str []]],
                              AV.slc false
                                [AV.agg
                                    [AV.int IntKind.i64 (IntKind.i64.wrap (marks0.tmod 24)),
                                      AV.int IntKind.i64 (IntKind.i64.wrap (marks0.tmod 4)), AV.int IntKind.i64 1,
                                      AV.int IntKind.i64 7],
                                  AV.agg
                                    [AV.int IntKind.i64 (IntKind.i64.wrap (marks1.tmod 24)),
                                      AV.int IntKind.i64 (IntKind.i64.wrap (marks1.tmod 4)), AV.int IntKind.i64 2,
                                      AV.int IntKind.i64 7],
                                  AV.agg
                                    [AV.int IntKind.i64 (IntKind.i64.wrap (marks2.tmod 24)),
                                      AV.int IntKind.i64 (IntKind.i64.wrap (marks2.tmod 4)), AV.int IntKind.i64 3,
                                      AV.int IntKind.i64 7]],
                              AV.agg
                                [AV.int IntKind.i64 d6.fst, AV.int IntKind.i64 d6.snd.fst,
                                  AV.int IntKind.i64 d6.snd.snd.fst, AV.int IntKind.i64 d6.snd.snd.snd.fst,
                                  AV.str d6.snd.snd.snd.snd.fst, AV.int IntKind.i64 d6.snd.snd.snd.snd.snd.fst,
                                  AV.int IntKind.i64 d6.snd.snd.snd.snd.snd.snd.fst,
                                  AV.slc d6.snd.snd.snd.snd.snd.snd.snd.fst
                                    (List.map (mkV true Write_tfs) d6.snd.snd.snd.snd.snd.snd.snd.snd)]]
                            [])
                          fun
                            (d7 :
                              Int ×
                                (Bool × List Int) ×
                                  (Bool × List (Int × Int × Int × Int × Int × Int × Int × Int × List UInt8)) ×
                                    (Bool × List (Int × Int × Int × Int)) ×
                                      Int ×
                                        Int × Int × Int × List UInt8 × Int × Int × Bool × List (Int × List UInt8)) =>
                          oK
                            (ldRow Ask_tfs
                              [AV.agg
                                  [AV.int IntKind.i64 wild_Kind, AV.int IntKind.i64 wild_From,
                                    AV.int IntKind.i64 wild_Epoch, AV.int IntKind.i64 wild_Seq, AV.str wild_Name,
                                    AV.int IntKind.i64 wild_File, AV.int IntKind.i64 wild_Mode,
                                    AV.slc wild_Writes_x (List.map (mkV true Write_tfs) wild_Writes)],
                                AV.agg
                                  [AV.int IntKind.i64 (askF d1.fst).snd.fst,
                                    AV.int IntKind.i64 (askF d1.fst).snd.snd.fst,
                                    AV.int IntKind.i64 (askF d1.fst).snd.snd.snd.fst,
                                    AV.int IntKind.i64 (askF d1.fst).snd.snd.snd.snd.fst,
                                    AV.str (askF d1.fst).snd.snd.snd.snd.snd.fst,
                                    AV.int IntKind.i64 (askF d1.fst).snd.snd.snd.snd.snd.snd.fst,
                                    AV.int IntKind.i64 (askF d1.fst).snd.snd.snd.snd.snd.snd.snd.fst,
                                    AV.slc (askF d1.fst).snd.snd.snd.snd.snd.snd.snd.snd.fst
                                      (List.map (mkV true Write_tfs)
                                        (askF d1.fst).snd.snd.snd.snd.snd.snd.snd.snd.snd)]]
                              1 0)
                            fun
                              (d8 : Int × Int × Int × Int × List UInt8 × Int × Int × Bool × List (Int × List UInt8)) =>
                            oK
                              (rjudgeS.dec
                                [AV.int IntKind.i64 (IntKind.i64.wrap (epoch.tmod 3)),
                                  AV.slc false
                                    [AV.int IntKind.i64 (IntKind.i64.wrap (seen0.tmod 24)),
                                      AV.int IntKind.i64 (IntKind.i64.wrap (seen1.tmod 24))],
                                  AV.slc false
                                    [AV.agg
                                        [AV.int IntKind.i64 1, AV.int IntKind.i64 1, AV.int IntKind.i64 0,
                                          AV.int IntKind.i64 (IntKind.i64.wrap (told0.tmod 24)),
                                          AV.int IntKind.i64 (IntKind.i64.wrap (told0.tmod 3)), AV.int IntKind.i64 0,
                                          AV.int IntKind.i64 0, AV.int IntKind.i64 0, AV.str []],
                                      AV.agg
                                        [AV.int IntKind.i64 1, AV.int IntKind.i64 2, AV.int IntKind.i64 0,
                                          AV.int IntKind.i64 (IntKind.i64.wrap (told1.tmod 24)),
                                          AV.int IntKind.i64 (IntKind.i64.wrap (told1.tmod 3)), AV.int IntKind.i64 0,
                                          AV.int IntKind.i64 0, AV.int IntKind.i64 0, AV.str []]],
                                  AV.slc false
                                    [AV.agg
                                        [AV.int IntKind.i64 (IntKind.i64.wrap (marks0.tmod 24)),
                                          AV.int IntKind.i64 (IntKind.i64.wrap (marks0.tmod 4)), AV.int IntKind.i64 1,
                                          AV.int IntKind.i64 7],
                                      AV.agg
                                        [AV.int IntKind.i64 (IntKind.i64.wrap (marks1.tmod 24)),
                                          AV.int IntKind.i64 (IntKind.i64.wrap (marks1.tmod 4)), AV.int IntKind.i64 2,
                                          AV.int IntKind.i64 7],
                                      AV.agg
                                        [AV.int IntKind.i64 (IntKind.i64.wrap (marks2.tmod 24)),
                                          AV.int IntKind.i64 (IntKind.i64.wrap (marks2.tmod 4)), AV.int IntKind.i64 3,
                                          AV.int IntKind.i64 7]],
                                  AV.agg
                                    [AV.int IntKind.i64 d8.fst, AV.int IntKind.i64 d8.snd.fst,
                                      AV.int IntKind.i64 d8.snd.snd.fst, AV.int IntKind.i64 d8.snd.snd.snd.fst,
                                      AV.str d8.snd.snd.snd.snd.fst, AV.int IntKind.i64 d8.snd.snd.snd.snd.snd.fst,
                                      AV.int IntKind.i64 d8.snd.snd.snd.snd.snd.snd.fst,
                                      AV.slc d8.snd.snd.snd.snd.snd.snd.snd.fst
                                        (List.map (mkV true Write_tfs) d8.snd.snd.snd.snd.snd.snd.snd.snd)]]
                                [])
                              fun
                                (d9 :
                                  Int ×
                                    (Bool × List Int) ×
                                      (Bool × List (Int × Int × Int × Int × Int × Int × Int × Int × List UInt8)) ×
                                        (Bool × List (Int × Int × Int × Int)) ×
                                          Int ×
                                            Int ×
                                              Int × Int × List UInt8 × Int × Int × Bool × List (Int × List UInt8)) =>
                              bK (!decide ((judgeG d7).fst = (judgeG d9).fst))
                                (some { pan := false, res := AV.bool false, out := [], new := [] })
                                (bK
                                  (!(decide ((judgeG d7).snd.fst = (judgeG d9).snd.fst) &&
                                      (decide ((judgeG d7).snd.snd.fst = (judgeG d9).snd.snd.fst) &&
                                        (decide ((judgeG d7).snd.snd.snd.fst = (judgeG d9).snd.snd.snd.fst) &&
                                          (decide ((judgeG d7).snd.snd.snd.snd.fst = (judgeG d9).snd.snd.snd.snd.fst) &&
                                            (decide
                                                ((judgeG d7).snd.snd.snd.snd.snd.fst =
                                                  (judgeG d9).snd.snd.snd.snd.snd.fst) &&
                                              (decide
                                                  ((judgeG d7).snd.snd.snd.snd.snd.snd.fst =
                                                    (judgeG d9).snd.snd.snd.snd.snd.snd.fst) &&
                                                (decide
                                                    ((judgeG d7).snd.snd.snd.snd.snd.snd.snd.fst =
                                                      (judgeG d9).snd.snd.snd.snd.snd.snd.snd.fst) &&
                                                  (decide
                                                      ((judgeG d7).snd.snd.snd.snd.snd.snd.snd.snd.fst =
                                                        (judgeG d9).snd.snd.snd.snd.snd.snd.snd.snd.fst) &&
                                                    (decide
                                                        ((judgeG d7).snd.snd.snd.snd.snd.snd.snd.snd.snd =
                                                          (judgeG d9).snd.snd.snd.snd.snd.snd.snd.snd.snd) &&
                                                      true))))))))))
                                  (some { pan := false, res := AV.bool false, out := [], new := [] })
                                  (bK (decide (less.tmod 2 = 0))
                                    (bK (decide (less.tmod 2 = 0))
                                      (bK
                                        (decide
                                            (10 ≤ IntKind.i64.wrap (IntKind.i64.wrap now - IntKind.i64.wrap last)) ==
                                          decide (10 ≤ IntKind.i64.wrap (IntKind.i64.wrap now - IntKind.i64.wrap last)))
                                        (bK (decide (less.tmod 2 = 0))
                                          (bK
                                            (decide
                                                (10 ≤
                                                  IntKind.i64.wrap
                                                    (IntKind.i64.wrap (IntKind.i64.wrap last + 9) -
                                                      IntKind.i64.wrap last)) ==
                                              false)
                                            (bK (decide (less.tmod 2 = 0))
                                              (some
                                                { pan := false,
                                                  res :=
                                                    AV.bool
                                                      (decide
                                                          (10 ≤
                                                            IntKind.i64.wrap
                                                              (IntKind.i64.wrap (IntKind.i64.wrap last + 10) -
                                                                IntKind.i64.wrap last)) ==
                                                        decide (less.tmod 2 = 0)),
                                                  out := [], new := [] })
                                              (some
                                                { pan := false, res := AV.bool (false == decide (less.tmod 2 = 0)),
                                                  out := [], new := [] }))
                                            (some { pan := false, res := AV.bool false, out := [], new := [] }))
                                          (bK (decide (less.tmod 2 = 0))
                                            (some
                                              { pan := false,
                                                res :=
                                                  AV.bool
                                                    (decide
                                                        (10 ≤
                                                          IntKind.i64.wrap
                                                            (IntKind.i64.wrap (IntKind.i64.wrap last + 10) -
                                                              IntKind.i64.wrap last)) ==
                                                      decide (less.tmod 2 = 0)),
                                                out := [], new := [] })
                                            (some
                                              { pan := false, res := AV.bool (false == decide (less.tmod 2 = 0)),
                                                out := [], new := [] })))
                                        (some { pan := false, res := AV.bool false, out := [], new := [] }))
                                      (bK
                                        (decide
                                            (10 ≤ IntKind.i64.wrap (IntKind.i64.wrap now - IntKind.i64.wrap last)) ==
                                          false)
                                        (bK (decide (less.tmod 2 = 0))
                                          (bK
                                            (decide
                                                (10 ≤
                                                  IntKind.i64.wrap
                                                    (IntKind.i64.wrap (IntKind.i64.wrap last + 9) -
                                                      IntKind.i64.wrap last)) ==
                                              false)
                                            (bK (decide (less.tmod 2 = 0))
                                              (some
                                                { pan := false,
                                                  res :=
                                                    AV.bool
                                                      (decide
                                                          (10 ≤
                                                            IntKind.i64.wrap
                                                              (IntKind.i64.wrap (IntKind.i64.wrap last + 10) -
                                                                IntKind.i64.wrap last)) ==
                                                        decide (less.tmod 2 = 0)),
                                                  out := [], new := [] })
                                              (some
                                                { pan := false, res := AV.bool (false == decide (less.tmod 2 = 0)),
                                                  out := [], new := [] }))
                                            (some { pan := false, res := AV.bool false, out := [], new := [] }))
                                          (bK (decide (less.tmod 2 = 0))
                                            (some
                                              { pan := false,
                                                res :=
                                                  AV.bool
                                                    (decide
                                                        (10 ≤
                                                          IntKind.i64.wrap
                                                            (IntKind.i64.wrap (IntKind.i64.wrap last + 10) -
                                                              IntKind.i64.wrap last)) ==
                                                      decide (less.tmod 2 = 0)),
                                                out := [], new := [] })
                                            (some
                                              { pan := false, res := AV.bool (false == decide (less.tmod 2 = 0)),
                                                out := [], new := [] })))
                                        (some { pan := false, res := AV.bool false, out := [], new := [] })))
                                    (bK (decide (less.tmod 2 = 0))
                                      (bK
                                        (false ==
                                          decide (10 ≤ IntKind.i64.wrap (IntKind.i64.wrap now - IntKind.i64.wrap last)))
                                        (bK (decide (less.tmod 2 = 0))
                                          (bK
                                            (decide
                                                (10 ≤
                                                  IntKind.i64.wrap
                                                    (IntKind.i64.wrap (IntKind.i64.wrap last + 9) -
                                                      IntKind.i64.wrap last)) ==
                                              false)
                                            (bK (decide (less.tmod 2 = 0))
                                              (some
                                                { pan := false,
                                                  res :=
                                                    AV.bool
                                                      (decide
                                                          (10 ≤
                                                            IntKind.i64.wrap
                                                              (IntKind.i64.wrap (IntKind.i64.wrap last + 10) -
                                                                IntKind.i64.wrap last)) ==
                                                        decide (less.tmod 2 = 0)),
                                                  out := [], new := [] })
                                              (some
                                                { pan := false, res := AV.bool (false == decide (less.tmod 2 = 0)),
                                                  out := [], new := [] }))
                                            (some { pan := false, res := AV.bool false, out := [], new := [] }))
                                          (bK (decide (less.tmod 2 = 0))
                                            (some
                                              { pan := false,
                                                res :=
                                                  AV.bool
                                                    (decide
                                                        (10 ≤
                                                          IntKind.i64.wrap
                                                            (IntKind.i64.wrap (IntKind.i64.wrap last + 10) -
                                                              IntKind.i64.wrap last)) ==
                                                      decide (less.tmod 2 = 0)),
                                                out := [], new := [] })
                                            (some
                                              { pan := false, res := AV.bool (false == decide (less.tmod 2 = 0)),
                                                out := [], new := [] })))
                                        (some { pan := false, res := AV.bool false, out := [], new := [] }))
                                      (bK (decide (less.tmod 2 = 0))
                                        (bK
                                          (decide
                                              (10 ≤
                                                IntKind.i64.wrap
                                                  (IntKind.i64.wrap (IntKind.i64.wrap last + 9) -
                                                    IntKind.i64.wrap last)) ==
                                            false)
                                          (bK (decide (less.tmod 2 = 0))
                                            (some
                                              { pan := false,
                                                res :=
                                                  AV.bool
                                                    (decide
                                                        (10 ≤
                                                          IntKind.i64.wrap
                                                            (IntKind.i64.wrap (IntKind.i64.wrap last + 10) -
                                                              IntKind.i64.wrap last)) ==
                                                      decide (less.tmod 2 = 0)),
                                                out := [], new := [] })
                                            (some
                                              { pan := false, res := AV.bool (false == decide (less.tmod 2 = 0)),
                                                out := [], new := [] }))
                                          (some { pan := false, res := AV.bool false, out := [], new := [] }))
                                        (bK (decide (less.tmod 2 = 0))
                                          (some
                                            { pan := false,
                                              res :=
                                                AV.bool
                                                  (decide
                                                      (10 ≤
                                                        IntKind.i64.wrap
                                                          (IntKind.i64.wrap (IntKind.i64.wrap last + 10) -
                                                            IntKind.i64.wrap last)) ==
                                                    decide (less.tmod 2 = 0)),
                                              out := [], new := [] })
                                          (some
                                            { pan := false, res := AV.bool (false == decide (less.tmod 2 = 0)),
                                              out := [], new := [] })))))))))
        (oK
          (askS.dec [AV.ptr 1000000 0 0 0]
            [{ v := 0, k := BK.box, fz := false, sz := 0,
                es := [AV.slc picks_x (List.map (mkV false [Lf.fi IntKind.u8]) picks), AV.int IntKind.i64 0] }])
          fun (d10 : ((Bool × List Int) × Int) × PUnit) =>
          oK
            (ldRow Ask_tfs
              [AV.agg
                  [AV.int IntKind.i64 wild_Kind, AV.int IntKind.i64 wild_From, AV.int IntKind.i64 wild_Epoch,
                    AV.int IntKind.i64 wild_Seq, AV.str wild_Name, AV.int IntKind.i64 wild_File,
                    AV.int IntKind.i64 wild_Mode, AV.slc wild_Writes_x (List.map (mkV true Write_tfs) wild_Writes)],
                AV.agg
                  [AV.int IntKind.i64 (askF d10.fst).snd.fst, AV.int IntKind.i64 (askF d10.fst).snd.snd.fst,
                    AV.int IntKind.i64 (askF d10.fst).snd.snd.snd.fst,
                    AV.int IntKind.i64 (askF d10.fst).snd.snd.snd.snd.fst,
                    AV.str (askF d10.fst).snd.snd.snd.snd.snd.fst,
                    AV.int IntKind.i64 (askF d10.fst).snd.snd.snd.snd.snd.snd.fst,
                    AV.int IntKind.i64 (askF d10.fst).snd.snd.snd.snd.snd.snd.snd.fst,
                    AV.slc (askF d10.fst).snd.snd.snd.snd.snd.snd.snd.snd.fst
                      (List.map (mkV true Write_tfs) (askF d10.fst).snd.snd.snd.snd.snd.snd.snd.snd.snd)]]
              0 0)
            fun (d11 : Int × Int × Int × Int × List UInt8 × Int × Int × Bool × List (Int × List UInt8)) =>
            oK
              (judgeS.dec
                [AV.int IntKind.i64 (IntKind.i64.wrap (epoch.tmod 3)),
                  AV.slc false
                    [AV.int IntKind.i64 (IntKind.i64.wrap (seen0.tmod 24)),
                      AV.int IntKind.i64 (IntKind.i64.wrap (seen1.tmod 24))],
                  AV.slc false
                    [AV.agg
                        [AV.int IntKind.i64 1, AV.int IntKind.i64 1, AV.int IntKind.i64 0,
                          AV.int IntKind.i64 (IntKind.i64.wrap (told0.tmod 24)),
                          AV.int IntKind.i64 (IntKind.i64.wrap (told0.tmod 3)), AV.int IntKind.i64 0,
                          AV.int IntKind.i64 0, AV.int IntKind.i64 0, AV.str []],
                      AV.agg
                        [AV.int IntKind.i64 1, AV.int IntKind.i64 2, AV.int IntKind.i64 0,
                          AV.int IntKind.i64 (IntKind.i64.wrap (told1.tmod 24)),
                          AV.int IntKind.i64 (IntKind.i64.wrap (told1.tmod 3)), AV.int IntKind.i64 0,
                          AV.int IntKind.i64 0, AV.int IntKind.i64 0, AV.str []],
                      AV.agg
                        [AV.int IntKind.i64 1, AV.int IntKind.i64 3, AV.int IntKind.i64 0,
                          AV.int IntKind.i64 (IntKind.i64.wrap (told2.tmod 24)),
                          AV.int IntKind.i64 (IntKind.i64.wrap (told2.tmod 3)), AV.int IntKind.i64 0,
                          AV.int IntKind.i64 0, AV.int IntKind.i64 0, AV.str []]],
                  AV.slc false
                    [AV.agg
                        [AV.int IntKind.i64 (IntKind.i64.wrap (marks0.tmod 24)),
                          AV.int IntKind.i64 (IntKind.i64.wrap (marks0.tmod 4)), AV.int IntKind.i64 1,
                          AV.int IntKind.i64 7],
                      AV.agg
                        [AV.int IntKind.i64 (IntKind.i64.wrap (marks1.tmod 24)),
                          AV.int IntKind.i64 (IntKind.i64.wrap (marks1.tmod 4)), AV.int IntKind.i64 2,
                          AV.int IntKind.i64 7],
                      AV.agg
                        [AV.int IntKind.i64 (IntKind.i64.wrap (marks2.tmod 24)),
                          AV.int IntKind.i64 (IntKind.i64.wrap (marks2.tmod 4)), AV.int IntKind.i64 3,
                          AV.int IntKind.i64 7]],
                  AV.agg
                    [AV.int IntKind.i64 d11.fst, AV.int IntKind.i64 d11.snd.fst, AV.int IntKind.i64 d11.snd.snd.fst,
                      AV.int IntKind.i64 d11.snd.snd.snd.fst, AV.str d11.snd.snd.snd.snd.fst,
                      AV.int IntKind.i64 d11.snd.snd.snd.snd.snd.fst,
                      AV.int IntKind.i64 d11.snd.snd.snd.snd.snd.snd.fst,
                      AV.slc d11.snd.snd.snd.snd.snd.snd.snd.fst
                        (List.map (mkV true Write_tfs) d11.snd.snd.snd.snd.snd.snd.snd.snd)]]
                [])
              fun
                (d12 :
                  Int ×
                    (Bool × List Int) ×
                      (Bool × List (Int × Int × Int × Int × Int × Int × Int × Int × List UInt8)) ×
                        (Bool × List (Int × Int × Int × Int)) ×
                          Int × Int × Int × Int × List UInt8 × Int × Int × Bool × List (Int × List UInt8)) =>
              oK
                (ldRow Ask_tfs
                  [AV.agg
                      [AV.int IntKind.i64 wild_Kind, AV.int IntKind.i64 wild_From, AV.int IntKind.i64 wild_Epoch,
                        AV.int IntKind.i64 wild_Seq, AV.str wild_Name, AV.int IntKind.i64 wild_File,
                        AV.int IntKind.i64 wild_Mode, AV.slc wild_Writes_x (List.map (mkV true Write_tfs) wild_Writes)],
                    AV.agg
                      [AV.int IntKind.i64 (askF d10.fst).snd.fst, AV.int IntKind.i64 (askF d10.fst).snd.snd.fst,
                        AV.int IntKind.i64 (askF d10.fst).snd.snd.snd.fst,
                        AV.int IntKind.i64 (askF d10.fst).snd.snd.snd.snd.fst,
                        AV.str (askF d10.fst).snd.snd.snd.snd.snd.fst,
                        AV.int IntKind.i64 (askF d10.fst).snd.snd.snd.snd.snd.snd.fst,
                        AV.int IntKind.i64 (askF d10.fst).snd.snd.snd.snd.snd.snd.snd.fst,
                        AV.slc (askF d10.fst).snd.snd.snd.snd.snd.snd.snd.snd.fst
                          (List.map (mkV true Write_tfs) (askF d10.fst).snd.snd.snd.snd.snd.snd.snd.snd.snd)]]
                  0 0)
                fun (d13 : Int × Int × Int × Int × List UInt8 × Int × Int × Bool × List (Int × List UInt8)) =>
                oK
                  (rjudgeS.dec
                    [AV.int IntKind.i64 (IntKind.i64.wrap (epoch.tmod 3)),
                      AV.slc false
                        [AV.int IntKind.i64 (IntKind.i64.wrap (seen0.tmod 24)),
                          AV.int IntKind.i64 (IntKind.i64.wrap (seen1.tmod 24))],
                      AV.slc false
                        [AV.agg
                            [AV.int IntKind.i64 1, AV.int IntKind.i64 1, AV.int IntKind.i64 0,
                              AV.int IntKind.i64 (IntKind.i64.wrap (told0.tmod 24)),
                              AV.int IntKind.i64 (IntKind.i64.wrap (told0.tmod 3)), AV.int IntKind.i64 0,
                              AV.int IntKind.i64 0, AV.int IntKind.i64 0, AV.str []],
                          AV.agg
                            [AV.int IntKind.i64 1, AV.int IntKind.i64 2, AV.int IntKind.i64 0,
                              AV.int IntKind.i64 (IntKind.i64.wrap (told1.tmod 24)),
                              AV.int IntKind.i64 (IntKind.i64.wrap (told1.tmod 3)), AV.int IntKind.i64 0,
                              AV.int IntKind.i64 0, AV.int IntKind.i64 0, AV.str []],
                          AV.agg
                            [AV.int IntKind.i64 1, AV.int IntKind.i64 3, AV.int IntKind.i64 0,
                              AV.int IntKind.i64 (IntKind.i64.wrap (told2.tmod 24)),
                              AV.int IntKind.i64 (IntKind.i64.wrap (told2.tmod 3)), AV.int IntKind.i64 0,
                              AV.int IntKind.i64 0, AV.int IntKind.i64 0, AV.str []]],
                      AV.slc false
                        [AV.agg
                            [AV.int IntKind.i64 (IntKind.i64.wrap (marks0.tmod 24)),
                              AV.int IntKind.i64 (IntKind.i64.wrap (marks0.tmod 4)), AV.int IntKind.i64 1,
                              AV.int IntKind.i64 7],
                          AV.agg
                            [AV.int IntKind.i64 (IntKind.i64.wrap (marks1.tmod 24)),
                              AV.int IntKind.i64 (IntKind.i64.wrap (marks1.tmod 4)), AV.int IntKind.i64 2,
                              AV.int IntKind.i64 7],
                          AV.agg
                            [AV.int IntKind.i64 (IntKind.i64.wrap (marks2.tmod 24)),
                              AV.int IntKind.i64 (IntKind.i64.wrap (marks2.tmod 4)), AV.int IntKind.i64 3,
                              AV.int IntKind.i64 7]],
                      AV.agg
                        [AV.int IntKind.i64 d13.fst, AV.int IntKind.i64 d13.snd.fst, AV.int IntKind.i64 d13.snd.snd.fst,
                          AV.int IntKind.i64 d13.snd.snd.snd.fst, AV.str d13.snd.snd.snd.snd.fst,
                          AV.int IntKind.i64 d13.snd.snd.snd.snd.snd.fst,
                          AV.int IntKind.i64 d13.snd.snd.snd.snd.snd.snd.fst,
                          AV.slc d13.snd.snd.snd.snd.snd.snd.snd.fst
                            (List.map (mkV true Write_tfs) d13.snd.snd.snd.snd.snd.snd.snd.snd)]]
                    [])
                  fun
                    (d14 :
                      Int ×
                        (Bool × List Int) ×
                          (Bool × List (Int × Int × Int × Int × Int × Int × Int × Int × List UInt8)) ×
                            (Bool × List (Int × Int × Int × Int)) ×
                              Int × Int × Int × Int × List UInt8 × Int × Int × Bool × List (Int × List UInt8)) =>
                  bK (!decide ((judgeG d12).fst = (judgeG d14).fst))
                    (some { pan := false, res := AV.bool false, out := [], new := [] })
                    (bK
                      (!(decide ((judgeG d12).snd.fst = (judgeG d14).snd.fst) &&
                          (decide ((judgeG d12).snd.snd.fst = (judgeG d14).snd.snd.fst) &&
                            (decide ((judgeG d12).snd.snd.snd.fst = (judgeG d14).snd.snd.snd.fst) &&
                              (decide ((judgeG d12).snd.snd.snd.snd.fst = (judgeG d14).snd.snd.snd.snd.fst) &&
                                (decide ((judgeG d12).snd.snd.snd.snd.snd.fst = (judgeG d14).snd.snd.snd.snd.snd.fst) &&
                                  (decide
                                      ((judgeG d12).snd.snd.snd.snd.snd.snd.fst =
                                        (judgeG d14).snd.snd.snd.snd.snd.snd.fst) &&
                                    (decide
                                        ((judgeG d12).snd.snd.snd.snd.snd.snd.snd.fst =
                                          (judgeG d14).snd.snd.snd.snd.snd.snd.snd.fst) &&
                                      (decide
                                          ((judgeG d12).snd.snd.snd.snd.snd.snd.snd.snd.fst =
                                            (judgeG d14).snd.snd.snd.snd.snd.snd.snd.snd.fst) &&
                                        (decide
                                            ((judgeG d12).snd.snd.snd.snd.snd.snd.snd.snd.snd =
                                              (judgeG d14).snd.snd.snd.snd.snd.snd.snd.snd.snd) &&
                                          true))))))))))
                      (some { pan := false, res := AV.bool false, out := [], new := [] })
                      (oK
                        (ldRow Ask_tfs
                          [AV.agg
                              [AV.int IntKind.i64 wild_Kind, AV.int IntKind.i64 wild_From,
                                AV.int IntKind.i64 wild_Epoch, AV.int IntKind.i64 wild_Seq, AV.str wild_Name,
                                AV.int IntKind.i64 wild_File, AV.int IntKind.i64 wild_Mode,
                                AV.slc wild_Writes_x (List.map (mkV true Write_tfs) wild_Writes)],
                            AV.agg
                              [AV.int IntKind.i64 (askF d10.fst).snd.fst, AV.int IntKind.i64 (askF d10.fst).snd.snd.fst,
                                AV.int IntKind.i64 (askF d10.fst).snd.snd.snd.fst,
                                AV.int IntKind.i64 (askF d10.fst).snd.snd.snd.snd.fst,
                                AV.str (askF d10.fst).snd.snd.snd.snd.snd.fst,
                                AV.int IntKind.i64 (askF d10.fst).snd.snd.snd.snd.snd.snd.fst,
                                AV.int IntKind.i64 (askF d10.fst).snd.snd.snd.snd.snd.snd.snd.fst,
                                AV.slc (askF d10.fst).snd.snd.snd.snd.snd.snd.snd.snd.fst
                                  (List.map (mkV true Write_tfs) (askF d10.fst).snd.snd.snd.snd.snd.snd.snd.snd.snd)]]
                          1 0)
                        fun (d15 : Int × Int × Int × Int × List UInt8 × Int × Int × Bool × List (Int × List UInt8)) =>
                        oK
                          (judgeS.dec
                            [AV.int IntKind.i64 (IntKind.i64.wrap (epoch.tmod 3)),
                              AV.slc false
                                [AV.int IntKind.i64 (IntKind.i64.wrap (seen0.tmod 24)),
                                  AV.int IntKind.i64 (IntKind.i64.wrap (seen1.tmod 24))],
                              AV.slc false
                                [AV.agg
                                    [AV.int IntKind.i64 1, AV.int IntKind.i64 1, AV.int IntKind.i64 0,
                                      AV.int IntKind.i64 (IntKind.i64.wrap (told0.tmod 24)),
                                      AV.int IntKind.i64 (IntKind.i64.wrap (told0.tmod 3)), AV.int IntKind.i64 0,
                                      AV.int IntKind.i64 0, AV.int IntKind.i64 0, AV.str []],
                                  AV.agg
                                    [AV.int IntKind.i64 1, AV.int IntKind.i64 2, AV.int IntKind.i64 0,
                                      AV.int IntKind.i64 (IntKind.i64.wrap (told1.tmod 24)),
                                      AV.int IntKind.i64 (IntKind.i64.wrap (told1.tmod 3)), AV.int IntKind.i64 0,
                                      AV.int IntKind.i64 0, AV.int IntKind.i64 0, AV.str []],
                                  AV.agg
                                    [AV.int IntKind.i64 1, AV.int IntKind.i64 3, AV.int IntKind.i64 0,
                                      AV.int IntKind.i64 (IntKind.i64.wrap (told2.tmod 24)),
                                      AV.int IntKind.i64 (IntKind.i64.wrap (told2.tmod 3)), AV.int IntKind.i64 0,
                                      AV.int IntKind.i64 0, AV.int IntKind.i64 0, AV.str []]],
                              AV.slc false
                                [AV.agg
                                    [AV.int IntKind.i64 (IntKind.i64.wrap (marks0.tmod 24)),
                                      AV.int IntKind.i64 (IntKind.i64.wrap (marks0.tmod 4)), AV.int IntKind.i64 1,
                                      AV.int IntKind.i64 7],
                                  AV.agg
                                    [AV.int IntKind.i64 (IntKind.i64.wrap (marks1.tmod 24)),
                                      AV.int IntKind.i64 (IntKind.i64.wrap (marks1.tmod 4)), AV.int IntKind.i64 2,
                                      AV.int IntKind.i64 7],
                                  AV.agg
                                    [AV.int IntKind.i64 (IntKind.i64.wrap (marks2.tmod 24)),
                                      AV.int IntKind.i64 (IntKind.i64.wrap (marks2.tmod 4)), AV.int IntKind.i64 3,
                                      AV.int IntKind.i64 7]],
                              AV.agg
                                [AV.int IntKind.i64 d15.fst, AV.int IntKind.i64 d15.snd.fst,
                                  AV.int IntKind.i64 d15.snd.snd.fst, AV.int IntKind.i64 d15.snd.snd.snd.fst,
                                  AV.str d15.snd.snd.snd.snd.fst, AV.int IntKind.i64 d15.snd.snd.snd.snd.snd.fst,
                                  AV.int IntKind.i64 d15.snd.snd.snd.snd.snd.snd.fst,
                                  AV.slc d15.snd.snd.snd.snd.snd.snd.snd.fst
                                    (List.map (mkV true Write_tfs) d15.snd.snd.snd.snd.snd.snd.snd.snd)]]
                            [])
                          fun
                            (d16 :
                              Int ×
                                (Bool × List Int) ×
                                  (Bool × List (Int × Int × Int × Int × Int × Int × Int × Int × List UInt8)) ×
                                    (Bool × List (Int × Int × Int × Int)) ×
                                      Int ×
                                        Int × Int × Int × List UInt8 × Int × Int × Bool × List (Int × List UInt8)) =>
                          oK
                            (ldRow Ask_tfs
                              [AV.agg
                                  [AV.int IntKind.i64 wild_Kind, AV.int IntKind.i64 wild_From,
                                    AV.int IntKind.i64 wild_Epoch, AV.int IntKind.i64 wild_Seq, AV.str wild_Name,
                                    AV.int IntKind.i64 wild_File, AV.int IntKind.i64 wild_Mode,
                                    AV.slc wild_Writes_x (List.map (mkV true Write_tfs) wild_Writes)],
                                AV.agg
                                  [AV.int IntKind.i64 (askF d10.fst).snd.fst,
                                    AV.int IntKind.i64 (askF d10.fst).snd.snd.fst,
                                    AV.int IntKind.i64 (askF d10.fst).snd.snd.snd.fst,
                                    AV.int IntKind.i64 (askF d10.fst).snd.snd.snd.snd.fst,
                                    AV.str (askF d10.fst).snd.snd.snd.snd.snd.fst,
                                    AV.int IntKind.i64 (askF d10.fst).snd.snd.snd.snd.snd.snd.fst,
                                    AV.int IntKind.i64 (askF d10.fst).snd.snd.snd.snd.snd.snd.snd.fst,
                                    AV.slc (askF d10.fst).snd.snd.snd.snd.snd.snd.snd.snd.fst
                                      (List.map (mkV true Write_tfs)
                                        (askF d10.fst).snd.snd.snd.snd.snd.snd.snd.snd.snd)]]
                              1 0)
                            fun
                              (d17 : Int × Int × Int × Int × List UInt8 × Int × Int × Bool × List (Int × List UInt8)) =>
                            oK
                              (rjudgeS.dec
                                [AV.int IntKind.i64 (IntKind.i64.wrap (epoch.tmod 3)),
                                  AV.slc false
                                    [AV.int IntKind.i64 (IntKind.i64.wrap (seen0.tmod 24)),
                                      AV.int IntKind.i64 (IntKind.i64.wrap (seen1.tmod 24))],
                                  AV.slc false
                                    [AV.agg
                                        [AV.int IntKind.i64 1, AV.int IntKind.i64 1, AV.int IntKind.i64 0,
                                          AV.int IntKind.i64 (IntKind.i64.wrap (told0.tmod 24)),
                                          AV.int IntKind.i64 (IntKind.i64.wrap (told0.tmod 3)), AV.int IntKind.i64 0,
                                          AV.int IntKind.i64 0, AV.int IntKind.i64 0, AV.str []],
                                      AV.agg
                                        [AV.int IntKind.i64 1, AV.int IntKind.i64 2, AV.int IntKind.i64 0,
                                          AV.int IntKind.i64 (IntKind.i64.wrap (told1.tmod 24)),
                                          AV.int IntKind.i64 (IntKind.i64.wrap (told1.tmod 3)), AV.int IntKind.i64 0,
                                          AV.int IntKind.i64 0, AV.int IntKind.i64 0, AV.str []],
                                      AV.agg
                                        [AV.int IntKind.i64 1, AV.int IntKind.i64 3, AV.int IntKind.i64 0,
                                          AV.int IntKind.i64 (IntKind.i64.wrap (told2.tmod 24)),
                                          AV.int IntKind.i64 (IntKind.i64.wrap (told2.tmod 3)), AV.int IntKind.i64 0,
                                          AV.int IntKind.i64 0, AV.int IntKind.i64 0, AV.str []]],
                                  AV.slc false
                                    [AV.agg
                                        [AV.int IntKind.i64 (IntKind.i64.wrap (marks0.tmod 24)),
                                          AV.int IntKind.i64 (IntKind.i64.wrap (marks0.tmod 4)), AV.int IntKind.i64 1,
                                          AV.int IntKind.i64 7],
                                      AV.agg
                                        [AV.int IntKind.i64 (IntKind.i64.wrap (marks1.tmod 24)),
                                          AV.int IntKind.i64 (IntKind.i64.wrap (marks1.tmod 4)), AV.int IntKind.i64 2,
                                          AV.int IntKind.i64 7],
                                      AV.agg
                                        [AV.int IntKind.i64 (IntKind.i64.wrap (marks2.tmod 24)),
                                          AV.int IntKind.i64 (IntKind.i64.wrap (marks2.tmod 4)), AV.int IntKind.i64 3,
                                          AV.int IntKind.i64 7]],
                                  AV.agg
                                    [AV.int IntKind.i64 d17.fst, AV.int IntKind.i64 d17.snd.fst,
                                      AV.int IntKind.i64 d17.snd.snd.fst, AV.int IntKind.i64 d17.snd.snd.snd.fst,
                                      AV.str d17.snd.snd.snd.snd.fst, AV.int IntKind.i64 d17.snd.snd.snd.snd.snd.fst,
                                      AV.int IntKind.i64 d17.snd.snd.snd.snd.snd.snd.fst,
                                      AV.slc d17.snd.snd.snd.snd.snd.snd.snd.fst
                                        (List.map (mkV true Write_tfs) d17.snd.snd.snd.snd.snd.snd.snd.snd)]]
                                [])
                              fun
                                (d18 :
                                  Int ×
                                    (Bool × List Int) ×
                                      (Bool × List (Int × Int × Int × Int × Int × Int × Int × Int × List UInt8)) ×
                                        (Bool × List (Int × Int × Int × Int)) ×
                                          Int ×
                                            Int ×
                                              Int × Int × List UInt8 × Int × Int × Bool × List (Int × List UInt8)) =>
                              bK (!decide ((judgeG d16).fst = (judgeG d18).fst))
                                (some { pan := false, res := AV.bool false, out := [], new := [] })
                                (bK
                                  (!(decide ((judgeG d16).snd.fst = (judgeG d18).snd.fst) &&
                                      (decide ((judgeG d16).snd.snd.fst = (judgeG d18).snd.snd.fst) &&
                                        (decide ((judgeG d16).snd.snd.snd.fst = (judgeG d18).snd.snd.snd.fst) &&
                                          (decide
                                              ((judgeG d16).snd.snd.snd.snd.fst = (judgeG d18).snd.snd.snd.snd.fst) &&
                                            (decide
                                                ((judgeG d16).snd.snd.snd.snd.snd.fst =
                                                  (judgeG d18).snd.snd.snd.snd.snd.fst) &&
                                              (decide
                                                  ((judgeG d16).snd.snd.snd.snd.snd.snd.fst =
                                                    (judgeG d18).snd.snd.snd.snd.snd.snd.fst) &&
                                                (decide
                                                    ((judgeG d16).snd.snd.snd.snd.snd.snd.snd.fst =
                                                      (judgeG d18).snd.snd.snd.snd.snd.snd.snd.fst) &&
                                                  (decide
                                                      ((judgeG d16).snd.snd.snd.snd.snd.snd.snd.snd.fst =
                                                        (judgeG d18).snd.snd.snd.snd.snd.snd.snd.snd.fst) &&
                                                    (decide
                                                        ((judgeG d16).snd.snd.snd.snd.snd.snd.snd.snd.snd =
                                                          (judgeG d18).snd.snd.snd.snd.snd.snd.snd.snd.snd) &&
                                                      true))))))))))
                                  (some { pan := false, res := AV.bool false, out := [], new := [] })
                                  (bK (decide (less.tmod 2 = 0))
                                    (bK (decide (less.tmod 2 = 0))
                                      (bK
                                        (decide
                                            (10 ≤ IntKind.i64.wrap (IntKind.i64.wrap now - IntKind.i64.wrap last)) ==
                                          decide (10 ≤ IntKind.i64.wrap (IntKind.i64.wrap now - IntKind.i64.wrap last)))
                                        (bK (decide (less.tmod 2 = 0))
                                          (bK
                                            (decide
                                                (10 ≤
                                                  IntKind.i64.wrap
                                                    (IntKind.i64.wrap (IntKind.i64.wrap last + 9) -
                                                      IntKind.i64.wrap last)) ==
                                              false)
                                            (bK (decide (less.tmod 2 = 0))
                                              (some
                                                { pan := false,
                                                  res :=
                                                    AV.bool
                                                      (decide
                                                          (10 ≤
                                                            IntKind.i64.wrap
                                                              (IntKind.i64.wrap (IntKind.i64.wrap last + 10) -
                                                                IntKind.i64.wrap last)) ==
                                                        decide (less.tmod 2 = 0)),
                                                  out := [], new := [] })
                                              (some
                                                { pan := false, res := AV.bool (false == decide (less.tmod 2 = 0)),
                                                  out := [], new := [] }))
                                            (some { pan := false, res := AV.bool false, out := [], new := [] }))
                                          (bK (decide (less.tmod 2 = 0))
                                            (some
                                              { pan := false,
                                                res :=
                                                  AV.bool
                                                    (decide
                                                        (10 ≤
                                                          IntKind.i64.wrap
                                                            (IntKind.i64.wrap (IntKind.i64.wrap last + 10) -
                                                              IntKind.i64.wrap last)) ==
                                                      decide (less.tmod 2 = 0)),
                                                out := [], new := [] })
                                            (some
                                              { pan := false, res := AV.bool (false == decide (less.tmod 2 = 0)),
                                                out := [], new := [] })))
                                        (some { pan := false, res := AV.bool false, out := [], new := [] }))
                                      (bK
                                        (decide
                                            (10 ≤ IntKind.i64.wrap (IntKind.i64.wrap now - IntKind.i64.wrap last)) ==
                                          false)
                                        (bK (decide (less.tmod 2 = 0))
                                          (bK
                                            (decide
                                                (10 ≤
                                                  IntKind.i64.wrap
                                                    (IntKind.i64.wrap (IntKind.i64.wrap last + 9) -
                                                      IntKind.i64.wrap last)) ==
                                              false)
                                            (bK (decide (less.tmod 2 = 0))
                                              (some
                                                { pan := false,
                                                  res :=
                                                    AV.bool
                                                      (decide
                                                          (10 ≤
                                                            IntKind.i64.wrap
                                                              (IntKind.i64.wrap (IntKind.i64.wrap last + 10) -
                                                                IntKind.i64.wrap last)) ==
                                                        decide (less.tmod 2 = 0)),
                                                  out := [], new := [] })
                                              (some
                                                { pan := false, res := AV.bool (false == decide (less.tmod 2 = 0)),
                                                  out := [], new := [] }))
                                            (some { pan := false, res := AV.bool false, out := [], new := [] }))
                                          (bK (decide (less.tmod 2 = 0))
                                            (some
                                              { pan := false,
                                                res :=
                                                  AV.bool
                                                    (decide
                                                        (10 ≤
                                                          IntKind.i64.wrap
                                                            (IntKind.i64.wrap (IntKind.i64.wrap last + 10) -
                                                              IntKind.i64.wrap last)) ==
                                                      decide (less.tmod 2 = 0)),
                                                out := [], new := [] })
                                            (some
                                              { pan := false, res := AV.bool (false == decide (less.tmod 2 = 0)),
                                                out := [], new := [] })))
                                        (some { pan := false, res := AV.bool false, out := [], new := [] })))
                                    (bK (decide (less.tmod 2 = 0))
                                      (bK
                                        (false ==
                                          decide (10 ≤ IntKind.i64.wrap (IntKind.i64.wrap now - IntKind.i64.wrap last)))
                                        (bK (decide (less.tmod 2 = 0))
                                          (bK
                                            (decide
                                                (10 ≤
                                                  IntKind.i64.wrap
                                                    (IntKind.i64.wrap (IntKind.i64.wrap last + 9) -
                                                      IntKind.i64.wrap last)) ==
                                              false)
                                            (bK (decide (less.tmod 2 = 0))
                                              (some
                                                { pan := false,
                                                  res :=
                                                    AV.bool
                                                      (decide
                                                          (10 ≤
                                                            IntKind.i64.wrap
                                                              (IntKind.i64.wrap (IntKind.i64.wrap last + 10) -
                                                                IntKind.i64.wrap last)) ==
                                                        decide (less.tmod 2 = 0)),
                                                  out := [], new := [] })
                                              (some
                                                { pan := false, res := AV.bool (false == decide (less.tmod 2 = 0)),
                                                  out := [], new := [] }))
                                            (some { pan := false, res := AV.bool false, out := [], new := [] }))
                                          (bK (decide (less.tmod 2 = 0))
                                            (some
                                              { pan := false,
                                                res :=
                                                  AV.bool
                                                    (decide
                                                        (10 ≤
                                                          IntKind.i64.wrap
                                                            (IntKind.i64.wrap (IntKind.i64.wrap last + 10) -
                                                              IntKind.i64.wrap last)) ==
                                                      decide (less.tmod 2 = 0)),
                                                out := [], new := [] })
                                            (some
                                              { pan := false, res := AV.bool (false == decide (less.tmod 2 = 0)),
                                                out := [], new := [] })))
                                        (some { pan := false, res := AV.bool false, out := [], new := [] }))
                                      (bK (decide (less.tmod 2 = 0))
                                        (bK
                                          (decide
                                              (10 ≤
                                                IntKind.i64.wrap
                                                  (IntKind.i64.wrap (IntKind.i64.wrap last + 9) -
                                                    IntKind.i64.wrap last)) ==
                                            false)
                                          (bK (decide (less.tmod 2 = 0))
                                            (some
                                              { pan := false,
                                                res :=
                                                  AV.bool
                                                    (decide
                                                        (10 ≤
                                                          IntKind.i64.wrap
                                                            (IntKind.i64.wrap (IntKind.i64.wrap last + 10) -
                                                              IntKind.i64.wrap last)) ==
                                                      decide (less.tmod 2 = 0)),
                                                out := [], new := [] })
                                            (some
                                              { pan := false, res := AV.bool (false == decide (less.tmod 2 = 0)),
                                                out := [], new := [] }))
                                          (some { pan := false, res := AV.bool false, out := [], new := [] }))
                                        (bK (decide (less.tmod 2 = 0))
                                          (some
                                            { pan := false,
                                              res :=
                                                AV.bool
                                                  (decide
                                                      (10 ≤
                                                        IntKind.i64.wrap
                                                          (IntKind.i64.wrap (IntKind.i64.wrap last + 10) -
                                                            IntKind.i64.wrap last)) ==
                                                    decide (less.tmod 2 = 0)),
                                              out := [], new := [] })
                                          (some
                                            { pan := false, res := AV.bool (false == decide (less.tmod 2 = 0)),
                                              out := [], new := [] }))))))))))
      (bK (decide (less.tmod 8 = 1))
        (oK
          (askS.dec [AV.ptr 1000000 0 0 0]
            [{ v := 0, k := BK.box, fz := false, sz := 0,
                es := [AV.slc picks_x (List.map (mkV false [Lf.fi IntKind.u8]) picks), AV.int IntKind.i64 0] }])
          fun (d19 : ((Bool × List Int) × Int) × PUnit) =>
          oK
            (ldRow Ask_tfs
              [AV.agg
                  [AV.int IntKind.i64 wild_Kind, AV.int IntKind.i64 wild_From, AV.int IntKind.i64 wild_Epoch,
                    AV.int IntKind.i64 wild_Seq, AV.str wild_Name, AV.int IntKind.i64 wild_File,
                    AV.int IntKind.i64 wild_Mode, AV.slc wild_Writes_x (List.map (mkV true Write_tfs) wild_Writes)],
                AV.agg
                  [AV.int IntKind.i64 (askF d19.fst).snd.fst, AV.int IntKind.i64 (askF d19.fst).snd.snd.fst,
                    AV.int IntKind.i64 (askF d19.fst).snd.snd.snd.fst,
                    AV.int IntKind.i64 (askF d19.fst).snd.snd.snd.snd.fst,
                    AV.str (askF d19.fst).snd.snd.snd.snd.snd.fst,
                    AV.int IntKind.i64 (askF d19.fst).snd.snd.snd.snd.snd.snd.fst,
                    AV.int IntKind.i64 (askF d19.fst).snd.snd.snd.snd.snd.snd.snd.fst,
                    AV.slc (askF d19.fst).snd.snd.snd.snd.snd.snd.snd.snd.fst
                      (List.map (mkV true Write_tfs) (askF d19.fst).snd.snd.snd.snd.snd.snd.snd.snd.snd)]]
              0 0)
            fun (d20 : Int × Int × Int × Int × List UInt8 × Int × Int × Bool × List (Int × List UInt8)) =>
            oK
              (judgeS.dec
                [AV.int IntKind.i64 (IntKind.i64.wrap (epoch.tmod 3)),
                  AV.slc false
                    [AV.int IntKind.i64 (IntKind.i64.wrap (seen0.tmod 24)),
                      AV.int IntKind.i64 (IntKind.i64.wrap (seen1.tmod 24)),
                      AV.int IntKind.i64 (IntKind.i64.wrap (seen2.tmod 24))],
                  AV.slc false
                    [AV.agg
                        [AV.int IntKind.i64 1, AV.int IntKind.i64 1, AV.int IntKind.i64 0,
                          AV.int IntKind.i64 (IntKind.i64.wrap (told0.tmod 24)),
                          AV.int IntKind.i64 (IntKind.i64.wrap (told0.tmod 3)), AV.int IntKind.i64 0,
                          AV.int IntKind.i64 0, AV.int IntKind.i64 0, AV.str []],
                      AV.agg
                        [AV.int IntKind.i64 1, AV.int IntKind.i64 2, AV.int IntKind.i64 0,
                          AV.int IntKind.i64 (IntKind.i64.wrap (told1.tmod 24)),
                          AV.int IntKind.i64 (IntKind.i64.wrap (told1.tmod 3)), AV.int IntKind.i64 0,
                          AV.int IntKind.i64 0, AV.int IntKind.i64 0, AV.str []]],
                  AV.slc false
                    [AV.agg
                        [AV.int IntKind.i64 (IntKind.i64.wrap (marks0.tmod 24)),
                          AV.int IntKind.i64 (IntKind.i64.wrap (marks0.tmod 4)), AV.int IntKind.i64 1,
                          AV.int IntKind.i64 7],
                      AV.agg
                        [AV.int IntKind.i64 (IntKind.i64.wrap (marks1.tmod 24)),
                          AV.int IntKind.i64 (IntKind.i64.wrap (marks1.tmod 4)), AV.int IntKind.i64 2,
                          AV.int IntKind.i64 7],
                      AV.agg
                        [AV.int IntKind.i64 (IntKind.i64.wrap (marks2.tmod 24)),
                          AV.int IntKind.i64 (IntKind.i64.wrap (marks2.tmod 4)), AV.int IntKind.i64 3,
                          AV.int IntKind.i64 7]],
                  AV.agg
                    [AV.int IntKind.i64 d20.fst, AV.int IntKind.i64 d20.snd.fst, AV.int IntKind.i64 d20.snd.snd.fst,
                      AV.int IntKind.i64 d20.snd.snd.snd.fst, AV.str d20.snd.snd.snd.snd.fst,
                      AV.int IntKind.i64 d20.snd.snd.snd.snd.snd.fst,
                      AV.int IntKind.i64 d20.snd.snd.snd.snd.snd.snd.fst,
                      AV.slc d20.snd.snd.snd.snd.snd.snd.snd.fst
                        (List.map (mkV true Write_tfs) d20.snd.snd.snd.snd.snd.snd.snd.snd)]]
                [])
              fun
                (d21 :
                  Int ×
                    (Bool × List Int) ×
                      (Bool × List (Int × Int × Int × Int × Int × Int × Int × Int × List UInt8)) ×
                        (Bool × List (Int × Int × Int × Int)) ×
                          Int × Int × Int × Int × List UInt8 × Int × Int × Bool × List (Int × List UInt8)) =>
              oK
                (ldRow Ask_tfs
                  [AV.agg
                      [AV.int IntKind.i64 wild_Kind, AV.int IntKind.i64 wild_From, AV.int IntKind.i64 wild_Epoch,
                        AV.int IntKind.i64 wild_Seq, AV.str wild_Name, AV.int IntKind.i64 wild_File,
                        AV.int IntKind.i64 wild_Mode, AV.slc wild_Writes_x (List.map (mkV true Write_tfs) wild_Writes)],
                    AV.agg
                      [AV.int IntKind.i64 (askF d19.fst).snd.fst, AV.int IntKind.i64 (askF d19.fst).snd.snd.fst,
                        AV.int IntKind.i64 (askF d19.fst).snd.snd.snd.fst,
                        AV.int IntKind.i64 (askF d19.fst).snd.snd.snd.snd.fst,
                        AV.str (askF d19.fst).snd.snd.snd.snd.snd.fst,
                        AV.int IntKind.i64 (askF d19.fst).snd.snd.snd.snd.snd.snd.fst,
                        AV.int IntKind.i64 (askF d19.fst).snd.snd.snd.snd.snd.snd.snd.fst,
                        AV.slc (askF d19.fst).snd.snd.snd.snd.snd.snd.snd.snd.fst
                          (List.map (mkV true Write_tfs) (askF d19.fst).snd.snd.snd.snd.snd.snd.snd.snd.snd)]]
                  0 0)
                fun (d22 : Int × Int × Int × Int × List UInt8 × Int × Int × Bool × List (Int × List UInt8)) =>
                oK
                  (rjudgeS.dec
                    [AV.int IntKind.i64 (IntKind.i64.wrap (epoch.tmod 3)),
                      AV.slc false
                        [AV.int IntKind.i64 (IntKind.i64.wrap (seen0.tmod 24)),
                          AV.int IntKind.i64 (IntKind.i64.wrap (seen1.tmod 24)),
                          AV.int IntKind.i64 (IntKind.i64.wrap (seen2.tmod 24))],
                      AV.slc false
                        [AV.agg
                            [AV.int IntKind.i64 1, AV.int IntKind.i64 1, AV.int IntKind.i64 0,
                              AV.int IntKind.i64 (IntKind.i64.wrap (told0.tmod 24)),
                              AV.int IntKind.i64 (IntKind.i64.wrap (told0.tmod 3)), AV.int IntKind.i64 0,
                              AV.int IntKind.i64 0, AV.int IntKind.i64 0, AV.str []],
                          AV.agg
                            [AV.int IntKind.i64 1, AV.int IntKind.i64 2, AV.int IntKind.i64 0,
                              AV.int IntKind.i64 (IntKind.i64.wrap (told1.tmod 24)),
                              AV.int IntKind.i64 (IntKind.i64.wrap (told1.tmod 3)), AV.int IntKind.i64 0,
                              AV.int IntKind.i64 0, AV.int IntKind.i64 0, AV.str []]],
                      AV.slc false
                        [AV.agg
                            [AV.int IntKind.i64 (IntKind.i64.wrap (marks0.tmod 24)),
                              AV.int IntKind.i64 (IntKind.i64.wrap (marks0.tmod 4)), AV.int IntKind.i64 1,
                              AV.int IntKind.i64 7],
                          AV.agg
                            [AV.int IntKind.i64 (IntKind.i64.wrap (marks1.tmod 24)),
                              AV.int IntKind.i64 (IntKind.i64.wrap (marks1.tmod 4)), AV.int IntKind.i64 2,
                              AV.int IntKind.i64 7],
                          AV.agg
                            [AV.int IntKind.i64 (IntKind.i64.wrap (marks2.tmod 24)),
                              AV.int IntKind.i64 (IntKind.i64.wrap (marks2.tmod 4)), AV.int IntKind.i64 3,
                              AV.int IntKind.i64 7]],
                      AV.agg
                        [AV.int IntKind.i64 d22.fst, AV.int IntKind.i64 d22.snd.fst, AV.int IntKind.i64 d22.snd.snd.fst,
                          AV.int IntKind.i64 d22.snd.snd.snd.fst, AV.str d22.snd.snd.snd.snd.fst,
                          AV.int IntKind.i64 d22.snd.snd.snd.snd.snd.fst,
                          AV.int IntKind.i64 d22.snd.snd.snd.snd.snd.snd.fst,
                          AV.slc d22.snd.snd.snd.snd.snd.snd.snd.fst
                            (List.map (mkV true Write_tfs) d22.snd.snd.snd.snd.snd.snd.snd.snd)]]
                    [])
                  fun
                    (d23 :
                      Int ×
                        (Bool × List Int) ×
                          (Bool × List (Int × Int × Int × Int × Int × Int × Int × Int × List UInt8)) ×
                            (Bool × List (Int × Int × Int × Int)) ×
                              Int × Int × Int × Int × List UInt8 × Int × Int × Bool × List (Int × List UInt8)) =>
                  bK (!decide ((judgeG d21).fst = (judgeG d23).fst))
                    (some { pan := false, res := AV.bool false, out := [], new := [] })
                    (bK
                      (!(decide ((judgeG d21).snd.fst = (judgeG d23).snd.fst) &&
                          (decide ((judgeG d21).snd.snd.fst = (judgeG d23).snd.snd.fst) &&
                            (decide ((judgeG d21).snd.snd.snd.fst = (judgeG d23).snd.snd.snd.fst) &&
                              (decide ((judgeG d21).snd.snd.snd.snd.fst = (judgeG d23).snd.snd.snd.snd.fst) &&
                                (decide ((judgeG d21).snd.snd.snd.snd.snd.fst = (judgeG d23).snd.snd.snd.snd.snd.fst) &&
                                  (decide
                                      ((judgeG d21).snd.snd.snd.snd.snd.snd.fst =
                                        (judgeG d23).snd.snd.snd.snd.snd.snd.fst) &&
                                    (decide
                                        ((judgeG d21).snd.snd.snd.snd.snd.snd.snd.fst =
                                          (judgeG d23).snd.snd.snd.snd.snd.snd.snd.fst) &&
                                      (decide
                                          ((judgeG d21).snd.snd.snd.snd.snd.snd.snd.snd.fst =
                                            (judgeG d23).snd.snd.snd.snd.snd.snd.snd.snd.fst) &&
                                        (decide
                                            ((judgeG d21).snd.snd.snd.snd.snd.snd.snd.snd.snd =
                                              (judgeG d23).snd.snd.snd.snd.snd.snd.snd.snd.snd) &&
                                          true))))))))))
                      (some { pan := false, res := AV.bool false, out := [], new := [] })
                      (oK
                        (ldRow Ask_tfs
                          [AV.agg
                              [AV.int IntKind.i64 wild_Kind, AV.int IntKind.i64 wild_From,
                                AV.int IntKind.i64 wild_Epoch, AV.int IntKind.i64 wild_Seq, AV.str wild_Name,
                                AV.int IntKind.i64 wild_File, AV.int IntKind.i64 wild_Mode,
                                AV.slc wild_Writes_x (List.map (mkV true Write_tfs) wild_Writes)],
                            AV.agg
                              [AV.int IntKind.i64 (askF d19.fst).snd.fst, AV.int IntKind.i64 (askF d19.fst).snd.snd.fst,
                                AV.int IntKind.i64 (askF d19.fst).snd.snd.snd.fst,
                                AV.int IntKind.i64 (askF d19.fst).snd.snd.snd.snd.fst,
                                AV.str (askF d19.fst).snd.snd.snd.snd.snd.fst,
                                AV.int IntKind.i64 (askF d19.fst).snd.snd.snd.snd.snd.snd.fst,
                                AV.int IntKind.i64 (askF d19.fst).snd.snd.snd.snd.snd.snd.snd.fst,
                                AV.slc (askF d19.fst).snd.snd.snd.snd.snd.snd.snd.snd.fst
                                  (List.map (mkV true Write_tfs) (askF d19.fst).snd.snd.snd.snd.snd.snd.snd.snd.snd)]]
                          1 0)
                        fun (d24 : Int × Int × Int × Int × List UInt8 × Int × Int × Bool × List (Int × List UInt8)) =>
                        oK
                          (judgeS.dec
                            [AV.int IntKind.i64 (IntKind.i64.wrap (epoch.tmod 3)),
                              AV.slc false
                                [AV.int IntKind.i64 (IntKind.i64.wrap (seen0.tmod 24)),
                                  AV.int IntKind.i64 (IntKind.i64.wrap (seen1.tmod 24)),
                                  AV.int IntKind.i64 (IntKind.i64.wrap (seen2.tmod 24))],
                              AV.slc false
                                [AV.agg
                                    [AV.int IntKind.i64 1, AV.int IntKind.i64 1, AV.int IntKind.i64 0,
                                      AV.int IntKind.i64 (IntKind.i64.wrap (told0.tmod 24)),
                                      AV.int IntKind.i64 (IntKind.i64.wrap (told0.tmod 3)), AV.int IntKind.i64 0,
                                      AV.int IntKind.i64 0, AV.int IntKind.i64 0, AV.str []],
                                  AV.agg
                                    [AV.int IntKind.i64 1, AV.int IntKind.i64 2, AV.int IntKind.i64 0,
                                      AV.int IntKind.i64 (IntKind.i64.wrap (told1.tmod 24)),
                                      AV.int IntKind.i64 (IntKind.i64.wrap (told1.tmod 3)), AV.int IntKind.i64 0,
                                      AV.int IntKind.i64 0, AV.int IntKind.i64 0, AV.str []]],
                              AV.slc false
                                [AV.agg
                                    [AV.int IntKind.i64 (IntKind.i64.wrap (marks0.tmod 24)),
                                      AV.int IntKind.i64 (IntKind.i64.wrap (marks0.tmod 4)), AV.int IntKind.i64 1,
                                      AV.int IntKind.i64 7],
                                  AV.agg
                                    [AV.int IntKind.i64 (IntKind.i64.wrap (marks1.tmod 24)),
                                      AV.int IntKind.i64 (IntKind.i64.wrap (marks1.tmod 4)), AV.int IntKind.i64 2,
                                      AV.int IntKind.i64 7],
                                  AV.agg
                                    [AV.int IntKind.i64 (IntKind.i64.wrap (marks2.tmod 24)),
                                      AV.int IntKind.i64 (IntKind.i64.wrap (marks2.tmod 4)), AV.int IntKind.i64 3,
                                      AV.int IntKind.i64 7]],
                              AV.agg
                                [AV.int IntKind.i64 d24.fst, AV.int IntKind.i64 d24.snd.fst,
                                  AV.int IntKind.i64 d24.snd.snd.fst, AV.int IntKind.i64 d24.snd.snd.snd.fst,
                                  AV.str d24.snd.snd.snd.snd.fst, AV.int IntKind.i64 d24.snd.snd.snd.snd.snd.fst,
                                  AV.int IntKind.i64 d24.snd.snd.snd.snd.snd.snd.fst,
                                  AV.slc d24.snd.snd.snd.snd.snd.snd.snd.fst
                                    (List.map (mkV true Write_tfs) d24.snd.snd.snd.snd.snd.snd.snd.snd)]]
                            [])
                          fun
                            (d25 :
                              Int ×
                                (Bool × List Int) ×
                                  (Bool × List (Int × Int × Int × Int × Int × Int × Int × Int × List UInt8)) ×
                                    (Bool × List (Int × Int × Int × Int)) ×
                                      Int ×
                                        Int × Int × Int × List UInt8 × Int × Int × Bool × List (Int × List UInt8)) =>
                          oK
                            (ldRow Ask_tfs
                              [AV.agg
                                  [AV.int IntKind.i64 wild_Kind, AV.int IntKind.i64 wild_From,
                                    AV.int IntKind.i64 wild_Epoch, AV.int IntKind.i64 wild_Seq, AV.str wild_Name,
                                    AV.int IntKind.i64 wild_File, AV.int IntKind.i64 wild_Mode,
                                    AV.slc wild_Writes_x (List.map (mkV true Write_tfs) wild_Writes)],
                                AV.agg
                                  [AV.int IntKind.i64 (askF d19.fst).snd.fst,
                                    AV.int IntKind.i64 (askF d19.fst).snd.snd.fst,
                                    AV.int IntKind.i64 (askF d19.fst).snd.snd.snd.fst,
                                    AV.int IntKind.i64 (askF d19.fst).snd.snd.snd.snd.fst,
                                    AV.str (askF d19.fst).snd.snd.snd.snd.snd.fst,
                                    AV.int IntKind.i64 (askF d19.fst).snd.snd.snd.snd.snd.snd.fst,
                                    AV.int IntKind.i64 (askF d19.fst).snd.snd.snd.snd.snd.snd.snd.fst,
                                    AV.slc (askF d19.fst).snd.snd.snd.snd.snd.snd.snd.snd.fst
                                      (List.map (mkV true Write_tfs)
                                        (askF d19.fst).snd.snd.snd.snd.snd.snd.snd.snd.snd)]]
                              1 0)
                            fun
                              (d26 : Int × Int × Int × Int × List UInt8 × Int × Int × Bool × List (Int × List UInt8)) =>
                            oK
                              (rjudgeS.dec
                                [AV.int IntKind.i64 (IntKind.i64.wrap (epoch.tmod 3)),
                                  AV.slc false
                                    [AV.int IntKind.i64 (IntKind.i64.wrap (seen0.tmod 24)),
                                      AV.int IntKind.i64 (IntKind.i64.wrap (seen1.tmod 24)),
                                      AV.int IntKind.i64 (IntKind.i64.wrap (seen2.tmod 24))],
                                  AV.slc false
                                    [AV.agg
                                        [AV.int IntKind.i64 1, AV.int IntKind.i64 1, AV.int IntKind.i64 0,
                                          AV.int IntKind.i64 (IntKind.i64.wrap (told0.tmod 24)),
                                          AV.int IntKind.i64 (IntKind.i64.wrap (told0.tmod 3)), AV.int IntKind.i64 0,
                                          AV.int IntKind.i64 0, AV.int IntKind.i64 0, AV.str []],
                                      AV.agg
                                        [AV.int IntKind.i64 1, AV.int IntKind.i64 2, AV.int IntKind.i64 0,
                                          AV.int IntKind.i64 (IntKind.i64.wrap (told1.tmod 24)),
                                          AV.int IntKind.i64 (IntKind.i64.wrap (told1.tmod 3)), AV.int IntKind.i64 0,
                                          AV.int IntKind.i64 0, AV.int IntKind.i64 0, AV.str []]],
                                  AV.slc false
                                    [AV.agg
                                        [AV.int IntKind.i64 (IntKind.i64.wrap (marks0.tmod 24)),
                                          AV.int IntKind.i64 (IntKind.i64.wrap (marks0.tmod 4)), AV.int IntKind.i64 1,
                                          AV.int IntKind.i64 7],
                                      AV.agg
                                        [AV.int IntKind.i64 (IntKind.i64.wrap (marks1.tmod 24)),
                                          AV.int IntKind.i64 (IntKind.i64.wrap (marks1.tmod 4)), AV.int IntKind.i64 2,
                                          AV.int IntKind.i64 7],
                                      AV.agg
                                        [AV.int IntKind.i64 (IntKind.i64.wrap (marks2.tmod 24)),
                                          AV.int IntKind.i64 (IntKind.i64.wrap (marks2.tmod 4)), AV.int IntKind.i64 3,
                                          AV.int IntKind.i64 7]],
                                  AV.agg
                                    [AV.int IntKind.i64 d26.fst, AV.int IntKind.i64 d26.snd.fst,
                                      AV.int IntKind.i64 d26.snd.snd.fst, AV.int IntKind.i64 d26.snd.snd.snd.fst,
                                      AV.str d26.snd.snd.snd.snd.fst, AV.int IntKind.i64 d26.snd.snd.snd.snd.snd.fst,
                                      AV.int IntKind.i64 d26.snd.snd.snd.snd.snd.snd.fst,
                                      AV.slc d26.snd.snd.snd.snd.snd.snd.snd.fst
                                        (List.map (mkV true Write_tfs) d26.snd.snd.snd.snd.snd.snd.snd.snd)]]
                                [])
                              fun
                                (d27 :
                                  Int ×
                                    (Bool × List Int) ×
                                      (Bool × List (Int × Int × Int × Int × Int × Int × Int × Int × List UInt8)) ×
                                        (Bool × List (Int × Int × Int × Int)) ×
                                          Int ×
                                            Int ×
                                              Int × Int × List UInt8 × Int × Int × Bool × List (Int × List UInt8)) =>
                              bK (!decide ((judgeG d25).fst = (judgeG d27).fst))
                                (some { pan := false, res := AV.bool false, out := [], new := [] })
                                (bK
                                  (!(decide ((judgeG d25).snd.fst = (judgeG d27).snd.fst) &&
                                      (decide ((judgeG d25).snd.snd.fst = (judgeG d27).snd.snd.fst) &&
                                        (decide ((judgeG d25).snd.snd.snd.fst = (judgeG d27).snd.snd.snd.fst) &&
                                          (decide
                                              ((judgeG d25).snd.snd.snd.snd.fst = (judgeG d27).snd.snd.snd.snd.fst) &&
                                            (decide
                                                ((judgeG d25).snd.snd.snd.snd.snd.fst =
                                                  (judgeG d27).snd.snd.snd.snd.snd.fst) &&
                                              (decide
                                                  ((judgeG d25).snd.snd.snd.snd.snd.snd.fst =
                                                    (judgeG d27).snd.snd.snd.snd.snd.snd.fst) &&
                                                (decide
                                                    ((judgeG d25).snd.snd.snd.snd.snd.snd.snd.fst =
                                                      (judgeG d27).snd.snd.snd.snd.snd.snd.snd.fst) &&
                                                  (decide
                                                      ((judgeG d25).snd.snd.snd.snd.snd.snd.snd.snd.fst =
                                                        (judgeG d27).snd.snd.snd.snd.snd.snd.snd.snd.fst) &&
                                                    (decide
                                                        ((judgeG d25).snd.snd.snd.snd.snd.snd.snd.snd.snd =
                                                          (judgeG d27).snd.snd.snd.snd.snd.snd.snd.snd.snd) &&
                                                      true))))))))))
                                  (some { pan := false, res := AV.bool false, out := [], new := [] })
                                  (bK (decide (less.tmod 2 = 0))
                                    (bK (decide (less.tmod 2 = 0))
                                      (bK
                                        (decide
                                            (10 ≤ IntKind.i64.wrap (IntKind.i64.wrap now - IntKind.i64.wrap last)) ==
                                          decide (10 ≤ IntKind.i64.wrap (IntKind.i64.wrap now - IntKind.i64.wrap last)))
                                        (bK (decide (less.tmod 2 = 0))
                                          (bK
                                            (decide
                                                (10 ≤
                                                  IntKind.i64.wrap
                                                    (IntKind.i64.wrap (IntKind.i64.wrap last + 9) -
                                                      IntKind.i64.wrap last)) ==
                                              false)
                                            (bK (decide (less.tmod 2 = 0))
                                              (some
                                                { pan := false,
                                                  res :=
                                                    AV.bool
                                                      (decide
                                                          (10 ≤
                                                            IntKind.i64.wrap
                                                              (IntKind.i64.wrap (IntKind.i64.wrap last + 10) -
                                                                IntKind.i64.wrap last)) ==
                                                        decide (less.tmod 2 = 0)),
                                                  out := [], new := [] })
                                              (some
                                                { pan := false, res := AV.bool (false == decide (less.tmod 2 = 0)),
                                                  out := [], new := [] }))
                                            (some { pan := false, res := AV.bool false, out := [], new := [] }))
                                          (bK (decide (less.tmod 2 = 0))
                                            (some
                                              { pan := false,
                                                res :=
                                                  AV.bool
                                                    (decide
                                                        (10 ≤
                                                          IntKind.i64.wrap
                                                            (IntKind.i64.wrap (IntKind.i64.wrap last + 10) -
                                                              IntKind.i64.wrap last)) ==
                                                      decide (less.tmod 2 = 0)),
                                                out := [], new := [] })
                                            (some
                                              { pan := false, res := AV.bool (false == decide (less.tmod 2 = 0)),
                                                out := [], new := [] })))
                                        (some { pan := false, res := AV.bool false, out := [], new := [] }))
                                      (bK
                                        (decide
                                            (10 ≤ IntKind.i64.wrap (IntKind.i64.wrap now - IntKind.i64.wrap last)) ==
                                          false)
                                        (bK (decide (less.tmod 2 = 0))
                                          (bK
                                            (decide
                                                (10 ≤
                                                  IntKind.i64.wrap
                                                    (IntKind.i64.wrap (IntKind.i64.wrap last + 9) -
                                                      IntKind.i64.wrap last)) ==
                                              false)
                                            (bK (decide (less.tmod 2 = 0))
                                              (some
                                                { pan := false,
                                                  res :=
                                                    AV.bool
                                                      (decide
                                                          (10 ≤
                                                            IntKind.i64.wrap
                                                              (IntKind.i64.wrap (IntKind.i64.wrap last + 10) -
                                                                IntKind.i64.wrap last)) ==
                                                        decide (less.tmod 2 = 0)),
                                                  out := [], new := [] })
                                              (some
                                                { pan := false, res := AV.bool (false == decide (less.tmod 2 = 0)),
                                                  out := [], new := [] }))
                                            (some { pan := false, res := AV.bool false, out := [], new := [] }))
                                          (bK (decide (less.tmod 2 = 0))
                                            (some
                                              { pan := false,
                                                res :=
                                                  AV.bool
                                                    (decide
                                                        (10 ≤
                                                          IntKind.i64.wrap
                                                            (IntKind.i64.wrap (IntKind.i64.wrap last + 10) -
                                                              IntKind.i64.wrap last)) ==
                                                      decide (less.tmod 2 = 0)),
                                                out := [], new := [] })
                                            (some
                                              { pan := false, res := AV.bool (false == decide (less.tmod 2 = 0)),
                                                out := [], new := [] })))
                                        (some { pan := false, res := AV.bool false, out := [], new := [] })))
                                    (bK (decide (less.tmod 2 = 0))
                                      (bK
                                        (false ==
                                          decide (10 ≤ IntKind.i64.wrap (IntKind.i64.wrap now - IntKind.i64.wrap last)))
                                        (bK (decide (less.tmod 2 = 0))
                                          (bK
                                            (decide
                                                (10 ≤
                                                  IntKind.i64.wrap
                                                    (IntKind.i64.wrap (IntKind.i64.wrap last + 9) -
                                                      IntKind.i64.wrap last)) ==
                                              false)
                                            (bK (decide (less.tmod 2 = 0))
                                              (some
                                                { pan := false,
                                                  res :=
                                                    AV.bool
                                                      (decide
                                                          (10 ≤
                                                            IntKind.i64.wrap
                                                              (IntKind.i64.wrap (IntKind.i64.wrap last + 10) -
                                                                IntKind.i64.wrap last)) ==
                                                        decide (less.tmod 2 = 0)),
                                                  out := [], new := [] })
                                              (some
                                                { pan := false, res := AV.bool (false == decide (less.tmod 2 = 0)),
                                                  out := [], new := [] }))
                                            (some { pan := false, res := AV.bool false, out := [], new := [] }))
                                          (bK (decide (less.tmod 2 = 0))
                                            (some
                                              { pan := false,
                                                res :=
                                                  AV.bool
                                                    (decide
                                                        (10 ≤
                                                          IntKind.i64.wrap
                                                            (IntKind.i64.wrap (IntKind.i64.wrap last + 10) -
                                                              IntKind.i64.wrap last)) ==
                                                      decide (less.tmod 2 = 0)),
                                                out := [], new := [] })
                                            (some
                                              { pan := false, res := AV.bool (false == decide (less.tmod 2 = 0)),
                                                out := [], new := [] })))
                                        (some { pan := false, res := AV.bool false, out := [], new := [] }))
                                      (bK (decide (less.tmod 2 = 0))
                                        (bK
                                          (decide
                                              (10 ≤
                                                IntKind.i64.wrap
                                                  (IntKind.i64.wrap (IntKind.i64.wrap last + 9) -
                                                    IntKind.i64.wrap last)) ==
                                            false)
                                          (bK (decide (less.tmod 2 = 0))
                                            (some
                                              { pan := false,
                                                res :=
                                                  AV.bool
                                                    (decide
                                                        (10 ≤
                                                          IntKind.i64.wrap
                                                            (IntKind.i64.wrap (IntKind.i64.wrap last + 10) -
                                                              IntKind.i64.wrap last)) ==
                                                      decide (less.tmod 2 = 0)),
                                                out := [], new := [] })
                                            (some
                                              { pan := false, res := AV.bool (false == decide (less.tmod 2 = 0)),
                                                out := [], new := [] }))
                                          (some { pan := false, res := AV.bool false, out := [], new := [] }))
                                        (bK (decide (less.tmod 2 = 0))
                                          (some
                                            { pan := false,
                                              res :=
                                                AV.bool
                                                  (decide
                                                      (10 ≤
                                                        IntKind.i64.wrap
                                                          (IntKind.i64.wrap (IntKind.i64.wrap last + 10) -
                                                            IntKind.i64.wrap last)) ==
                                                    decide (less.tmod 2 = 0)),
                                              out := [], new := [] })
                                          (some
                                            { pan := false, res := AV.bool (false == decide (less.tmod 2 = 0)),
                                              out := [], new := [] })))))))))
        (oK
          (askS.dec [AV.ptr 1000000 0 0 0]
            [{ v := 0, k := BK.box, fz := false, sz := 0,
                es := [AV.slc picks_x (List.map (mkV false [Lf.fi IntKind.u8]) picks), AV.int IntKind.i64 0] }])
          fun (d28 : ((Bool × List Int) × Int) × PUnit) =>
          oK
            (ldRow Ask_tfs
              [AV.agg
                  [AV.int IntKind.i64 wild_Kind, AV.int IntKind.i64 wild_From, AV.int IntKind.i64 wild_Epoch,
                    AV.int IntKind.i64 wild_Seq, AV.str wild_Name, AV.int IntKind.i64 wild_File,
                    AV.int IntKind.i64 wild_Mode, AV.slc wild_Writes_x (List.map (mkV true Write_tfs) wild_Writes)],
                AV.agg
                  [AV.int IntKind.i64 (askF d28.fst).snd.fst, AV.int IntKind.i64 (askF d28.fst).snd.snd.fst,
                    AV.int IntKind.i64 (askF d28.fst).snd.snd.snd.fst,
                    AV.int IntKind.i64 (askF d28.fst).snd.snd.snd.snd.fst,
                    AV.str (askF d28.fst).snd.snd.snd.snd.snd.fst,
                    AV.int IntKind.i64 (askF d28.fst).snd.snd.snd.snd.snd.snd.fst,
                    AV.int IntKind.i64 (askF d28.fst).snd.snd.snd.snd.snd.snd.snd.fst,
                    AV.slc (askF d28.fst).snd.snd.snd.snd.snd.snd.snd.snd.fst
                      (List.map (mkV true Write_tfs) (askF d28.fst).snd.snd.snd.snd.snd.snd.snd.snd.snd)]]
              0 0)
            fun (d29 : Int × Int × Int × Int × List UInt8 × Int × Int × Bool × List (Int × List UInt8)) =>
            oK
              (judgeS.dec
                [AV.int IntKind.i64 (IntKind.i64.wrap (epoch.tmod 3)),
                  AV.slc false
                    [AV.int IntKind.i64 (IntKind.i64.wrap (seen0.tmod 24)),
                      AV.int IntKind.i64 (IntKind.i64.wrap (seen1.tmod 24)),
                      AV.int IntKind.i64 (IntKind.i64.wrap (seen2.tmod 24))],
                  AV.slc false
                    [AV.agg
                        [AV.int IntKind.i64 1, AV.int IntKind.i64 1, AV.int IntKind.i64 0,
                          AV.int IntKind.i64 (IntKind.i64.wrap (told0.tmod 24)),
                          AV.int IntKind.i64 (IntKind.i64.wrap (told0.tmod 3)), AV.int IntKind.i64 0,
                          AV.int IntKind.i64 0, AV.int IntKind.i64 0, AV.str []],
                      AV.agg
                        [AV.int IntKind.i64 1, AV.int IntKind.i64 2, AV.int IntKind.i64 0,
                          AV.int IntKind.i64 (IntKind.i64.wrap (told1.tmod 24)),
                          AV.int IntKind.i64 (IntKind.i64.wrap (told1.tmod 3)), AV.int IntKind.i64 0,
                          AV.int IntKind.i64 0, AV.int IntKind.i64 0, AV.str []],
                      AV.agg
                        [AV.int IntKind.i64 1, AV.int IntKind.i64 3, AV.int IntKind.i64 0,
                          AV.int IntKind.i64 (IntKind.i64.wrap (told2.tmod 24)),
                          AV.int IntKind.i64 (IntKind.i64.wrap (told2.tmod 3)), AV.int IntKind.i64 0,
                          AV.int IntKind.i64 0, AV.int IntKind.i64 0, AV.str []]],
                  AV.slc false
                    [AV.agg
                        [AV.int IntKind.i64 (IntKind.i64.wrap (marks0.tmod 24)),
                          AV.int IntKind.i64 (IntKind.i64.wrap (marks0.tmod 4)), AV.int IntKind.i64 1,
                          AV.int IntKind.i64 7],
                      AV.agg
                        [AV.int IntKind.i64 (IntKind.i64.wrap (marks1.tmod 24)),
                          AV.int IntKind.i64 (IntKind.i64.wrap (marks1.tmod 4)), AV.int IntKind.i64 2,
                          AV.int IntKind.i64 7],
                      AV.agg
                        [AV.int IntKind.i64 (IntKind.i64.wrap (marks2.tmod 24)),
                          AV.int IntKind.i64 (IntKind.i64.wrap (marks2.tmod 4)), AV.int IntKind.i64 3,
                          AV.int IntKind.i64 7]],
                  AV.agg
                    [AV.int IntKind.i64 d29.fst, AV.int IntKind.i64 d29.snd.fst, AV.int IntKind.i64 d29.snd.snd.fst,
                      AV.int IntKind.i64 d29.snd.snd.snd.fst, AV.str d29.snd.snd.snd.snd.fst,
                      AV.int IntKind.i64 d29.snd.snd.snd.snd.snd.fst,
                      AV.int IntKind.i64 d29.snd.snd.snd.snd.snd.snd.fst,
                      AV.slc d29.snd.snd.snd.snd.snd.snd.snd.fst
                        (List.map (mkV true Write_tfs) d29.snd.snd.snd.snd.snd.snd.snd.snd)]]
                [])
              fun
                (d30 :
                  Int ×
                    (Bool × List Int) ×
                      (Bool × List (Int × Int × Int × Int × Int × Int × Int × Int × List UInt8)) ×
                        (Bool × List (Int × Int × Int × Int)) ×
                          Int × Int × Int × Int × List UInt8 × Int × Int × Bool × List (Int × List UInt8)) =>
              oK
                (ldRow Ask_tfs
                  [AV.agg
                      [AV.int IntKind.i64 wild_Kind, AV.int IntKind.i64 wild_From, AV.int IntKind.i64 wild_Epoch,
                        AV.int IntKind.i64 wild_Seq, AV.str wild_Name, AV.int IntKind.i64 wild_File,
                        AV.int IntKind.i64 wild_Mode, AV.slc wild_Writes_x (List.map (mkV true Write_tfs) wild_Writes)],
                    AV.agg
                      [AV.int IntKind.i64 (askF d28.fst).snd.fst, AV.int IntKind.i64 (askF d28.fst).snd.snd.fst,
                        AV.int IntKind.i64 (askF d28.fst).snd.snd.snd.fst,
                        AV.int IntKind.i64 (askF d28.fst).snd.snd.snd.snd.fst,
                        AV.str (askF d28.fst).snd.snd.snd.snd.snd.fst,
                        AV.int IntKind.i64 (askF d28.fst).snd.snd.snd.snd.snd.snd.fst,
                        AV.int IntKind.i64 (askF d28.fst).snd.snd.snd.snd.snd.snd.snd.fst,
                        AV.slc (askF d28.fst).snd.snd.snd.snd.snd.snd.snd.snd.fst
                          (List.map (mkV true Write_tfs) (askF d28.fst).snd.snd.snd.snd.snd.snd.snd.snd.snd)]]
                  0 0)
                fun (d31 : Int × Int × Int × Int × List UInt8 × Int × Int × Bool × List (Int × List UInt8)) =>
                oK
                  (rjudgeS.dec
                    [AV.int IntKind.i64 (IntKind.i64.wrap (epoch.tmod 3)),
                      AV.slc false
                        [AV.int IntKind.i64 (IntKind.i64.wrap (seen0.tmod 24)),
                          AV.int IntKind.i64 (IntKind.i64.wrap (seen1.tmod 24)),
                          AV.int IntKind.i64 (IntKind.i64.wrap (seen2.tmod 24))],
                      AV.slc false
                        [AV.agg
                            [AV.int IntKind.i64 1, AV.int IntKind.i64 1, AV.int IntKind.i64 0,
                              AV.int IntKind.i64 (IntKind.i64.wrap (told0.tmod 24)),
                              AV.int IntKind.i64 (IntKind.i64.wrap (told0.tmod 3)), AV.int IntKind.i64 0,
                              AV.int IntKind.i64 0, AV.int IntKind.i64 0, AV.str []],
                          AV.agg
                            [AV.int IntKind.i64 1, AV.int IntKind.i64 2, AV.int IntKind.i64 0,
                              AV.int IntKind.i64 (IntKind.i64.wrap (told1.tmod 24)),
                              AV.int IntKind.i64 (IntKind.i64.wrap (told1.tmod 3)), AV.int IntKind.i64 0,
                              AV.int IntKind.i64 0, AV.int IntKind.i64 0, AV.str []],
                          AV.agg
                            [AV.int IntKind.i64 1, AV.int IntKind.i64 3, AV.int IntKind.i64 0,
                              AV.int IntKind.i64 (IntKind.i64.wrap (told2.tmod 24)),
                              AV.int IntKind.i64 (IntKind.i64.wrap (told2.tmod 3)), AV.int IntKind.i64 0,
                              AV.int IntKind.i64 0, AV.int IntKind.i64 0, AV.str []]],
                      AV.slc false
                        [AV.agg
                            [AV.int IntKind.i64 (IntKind.i64.wrap (marks0.tmod 24)),
                              AV.int IntKind.i64 (IntKind.i64.wrap (marks0.tmod 4)), AV.int IntKind.i64 1,
                              AV.int IntKind.i64 7],
                          AV.agg
                            [AV.int IntKind.i64 (IntKind.i64.wrap (marks1.tmod 24)),
                              AV.int IntKind.i64 (IntKind.i64.wrap (marks1.tmod 4)), AV.int IntKind.i64 2,
                              AV.int IntKind.i64 7],
                          AV.agg
                            [AV.int IntKind.i64 (IntKind.i64.wrap (marks2.tmod 24)),
                              AV.int IntKind.i64 (IntKind.i64.wrap (marks2.tmod 4)), AV.int IntKind.i64 3,
                              AV.int IntKind.i64 7]],
                      AV.agg
                        [AV.int IntKind.i64 d31.fst, AV.int IntKind.i64 d31.snd.fst, AV.int IntKind.i64 d31.snd.snd.fst,
                          AV.int IntKind.i64 d31.snd.snd.snd.fst, AV.str d31.snd.snd.snd.snd.fst,
                          AV.int IntKind.i64 d31.snd.snd.snd.snd.snd.fst,
                          AV.int IntKind.i64 d31.snd.snd.snd.snd.snd.snd.fst,
                          AV.slc d31.snd.snd.snd.snd.snd.snd.snd.fst
                            (List.map (mkV true Write_tfs) d31.snd.snd.snd.snd.snd.snd.snd.snd)]]
                    [])
                  fun
                    (d32 :
                      Int ×
                        (Bool × List Int) ×
                          (Bool × List (Int × Int × Int × Int × Int × Int × Int × Int × List UInt8)) ×
                            (Bool × List (Int × Int × Int × Int)) ×
                              Int × Int × Int × Int × List UInt8 × Int × Int × Bool × List (Int × List UInt8)) =>
                  bK (!decide ((judgeG d30).fst = (judgeG d32).fst))
                    (some { pan := false, res := AV.bool false, out := [], new := [] })
                    (bK
                      (!(decide ((judgeG d30).snd.fst = (judgeG d32).snd.fst) &&
                          (decide ((judgeG d30).snd.snd.fst = (judgeG d32).snd.snd.fst) &&
                            (decide ((judgeG d30).snd.snd.snd.fst = (judgeG d32).snd.snd.snd.fst) &&
                              (decide ((judgeG d30).snd.snd.snd.snd.fst = (judgeG d32).snd.snd.snd.snd.fst) &&
                                (decide ((judgeG d30).snd.snd.snd.snd.snd.fst = (judgeG d32).snd.snd.snd.snd.snd.fst) &&
                                  (decide
                                      ((judgeG d30).snd.snd.snd.snd.snd.snd.fst =
                                        (judgeG d32).snd.snd.snd.snd.snd.snd.fst) &&
                                    (decide
                                        ((judgeG d30).snd.snd.snd.snd.snd.snd.snd.fst =
                                          (judgeG d32).snd.snd.snd.snd.snd.snd.snd.fst) &&
                                      (decide
                                          ((judgeG d30).snd.snd.snd.snd.snd.snd.snd.snd.fst =
                                            (judgeG d32).snd.snd.snd.snd.snd.snd.snd.snd.fst) &&
                                        (decide
                                            ((judgeG d30).snd.snd.snd.snd.snd.snd.snd.snd.snd =
                                              (judgeG d32).snd.snd.snd.snd.snd.snd.snd.snd.snd) &&
                                          true))))))))))
                      (some { pan := false, res := AV.bool false, out := [], new := [] })
                      (oK
                        (ldRow Ask_tfs
                          [AV.agg
                              [AV.int IntKind.i64 wild_Kind, AV.int IntKind.i64 wild_From,
                                AV.int IntKind.i64 wild_Epoch, AV.int IntKind.i64 wild_Seq, AV.str wild_Name,
                                AV.int IntKind.i64 wild_File, AV.int IntKind.i64 wild_Mode,
                                AV.slc wild_Writes_x (List.map (mkV true Write_tfs) wild_Writes)],
                            AV.agg
                              [AV.int IntKind.i64 (askF d28.fst).snd.fst, AV.int IntKind.i64 (askF d28.fst).snd.snd.fst,
                                AV.int IntKind.i64 (askF d28.fst).snd.snd.snd.fst,
                                AV.int IntKind.i64 (askF d28.fst).snd.snd.snd.snd.fst,
                                AV.str (askF d28.fst).snd.snd.snd.snd.snd.fst,
                                AV.int IntKind.i64 (askF d28.fst).snd.snd.snd.snd.snd.snd.fst,
                                AV.int IntKind.i64 (askF d28.fst).snd.snd.snd.snd.snd.snd.snd.fst,
                                AV.slc (askF d28.fst).snd.snd.snd.snd.snd.snd.snd.snd.fst
                                  (List.map (mkV true Write_tfs) (askF d28.fst).snd.snd.snd.snd.snd.snd.snd.snd.snd)]]
                          1 0)
                        fun (d33 : Int × Int × Int × Int × List UInt8 × Int × Int × Bool × List (Int × List UInt8)) =>
                        oK
                          (judgeS.dec
                            [AV.int IntKind.i64 (IntKind.i64.wrap (epoch.tmod 3)),
                              AV.slc false
                                [AV.int IntKind.i64 (IntKind.i64.wrap (seen0.tmod 24)),
                                  AV.int IntKind.i64 (IntKind.i64.wrap (seen1.tmod 24)),
                                  AV.int IntKind.i64 (IntKind.i64.wrap (seen2.tmod 24))],
                              AV.slc false
                                [AV.agg
                                    [AV.int IntKind.i64 1, AV.int IntKind.i64 1, AV.int IntKind.i64 0,
                                      AV.int IntKind.i64 (IntKind.i64.wrap (told0.tmod 24)),
                                      AV.int IntKind.i64 (IntKind.i64.wrap (told0.tmod 3)), AV.int IntKind.i64 0,
                                      AV.int IntKind.i64 0, AV.int IntKind.i64 0, AV.str []],
                                  AV.agg
                                    [AV.int IntKind.i64 1, AV.int IntKind.i64 2, AV.int IntKind.i64 0,
                                      AV.int IntKind.i64 (IntKind.i64.wrap (told1.tmod 24)),
                                      AV.int IntKind.i64 (IntKind.i64.wrap (told1.tmod 3)), AV.int IntKind.i64 0,
                                      AV.int IntKind.i64 0, AV.int IntKind.i64 0, AV.str []],
                                  AV.agg
                                    [AV.int IntKind.i64 1, AV.int IntKind.i64 3, AV.int IntKind.i64 0,
                                      AV.int IntKind.i64 (IntKind.i64.wrap (told2.tmod 24)),
                                      AV.int IntKind.i64 (IntKind.i64.wrap (told2.tmod 3)), AV.int IntKind.i64 0,
                                      AV.int IntKind.i64 0, AV.int IntKind.i64 0, AV.str []]],
                              AV.slc false
                                [AV.agg
                                    [AV.int IntKind.i64 (IntKind.i64.wrap (marks0.tmod 24)),
                                      AV.int IntKind.i64 (IntKind.i64.wrap (marks0.tmod 4)), AV.int IntKind.i64 1,
                                      AV.int IntKind.i64 7],
                                  AV.agg
                                    [AV.int IntKind.i64 (IntKind.i64.wrap (marks1.tmod 24)),
                                      AV.int IntKind.i64 (IntKind.i64.wrap (marks1.tmod 4)), AV.int IntKind.i64 2,
                                      AV.int IntKind.i64 7],
                                  AV.agg
                                    [AV.int IntKind.i64 (IntKind.i64.wrap (marks2.tmod 24)),
                                      AV.int IntKind.i64 (IntKind.i64.wrap (marks2.tmod 4)), AV.int IntKind.i64 3,
                                      AV.int IntKind.i64 7]],
                              AV.agg
                                [AV.int IntKind.i64 d33.fst, AV.int IntKind.i64 d33.snd.fst,
                                  AV.int IntKind.i64 d33.snd.snd.fst, AV.int IntKind.i64 d33.snd.snd.snd.fst,
                                  AV.str d33.snd.snd.snd.snd.fst, AV.int IntKind.i64 d33.snd.snd.snd.snd.snd.fst,
                                  AV.int IntKind.i64 d33.snd.snd.snd.snd.snd.snd.fst,
                                  AV.slc d33.snd.snd.snd.snd.snd.snd.snd.fst
                                    (List.map (mkV true Write_tfs) d33.snd.snd.snd.snd.snd.snd.snd.snd)]]
                            [])
                          fun
                            (d34 :
                              Int ×
                                (Bool × List Int) ×
                                  (Bool × List (Int × Int × Int × Int × Int × Int × Int × Int × List UInt8)) ×
                                    (Bool × List (Int × Int × Int × Int)) ×
                                      Int ×
                                        Int × Int × Int × List UInt8 × Int × Int × Bool × List (Int × List UInt8)) =>
                          oK
                            (ldRow Ask_tfs
                              [AV.agg
                                  [AV.int IntKind.i64 wild_Kind, AV.int IntKind.i64 wild_From,
                                    AV.int IntKind.i64 wild_Epoch, AV.int IntKind.i64 wild_Seq, AV.str wild_Name,
                                    AV.int IntKind.i64 wild_File, AV.int IntKind.i64 wild_Mode,
                                    AV.slc wild_Writes_x (List.map (mkV true Write_tfs) wild_Writes)],
                                AV.agg
                                  [AV.int IntKind.i64 (askF d28.fst).snd.fst,
                                    AV.int IntKind.i64 (askF d28.fst).snd.snd.fst,
                                    AV.int IntKind.i64 (askF d28.fst).snd.snd.snd.fst,
                                    AV.int IntKind.i64 (askF d28.fst).snd.snd.snd.snd.fst,
                                    AV.str (askF d28.fst).snd.snd.snd.snd.snd.fst,
                                    AV.int IntKind.i64 (askF d28.fst).snd.snd.snd.snd.snd.snd.fst,
                                    AV.int IntKind.i64 (askF d28.fst).snd.snd.snd.snd.snd.snd.snd.fst,
                                    AV.slc (askF d28.fst).snd.snd.snd.snd.snd.snd.snd.snd.fst
                                      (List.map (mkV true Write_tfs)
                                        (askF d28.fst).snd.snd.snd.snd.snd.snd.snd.snd.snd)]]
                              1 0)
                            fun
                              (d35 : Int × Int × Int × Int × List UInt8 × Int × Int × Bool × List (Int × List UInt8)) =>
                            oK
                              (rjudgeS.dec
                                [AV.int IntKind.i64 (IntKind.i64.wrap (epoch.tmod 3)),
                                  AV.slc false
                                    [AV.int IntKind.i64 (IntKind.i64.wrap (seen0.tmod 24)),
                                      AV.int IntKind.i64 (IntKind.i64.wrap (seen1.tmod 24)),
                                      AV.int IntKind.i64 (IntKind.i64.wrap (seen2.tmod 24))],
                                  AV.slc false
                                    [AV.agg
                                        [AV.int IntKind.i64 1, AV.int IntKind.i64 1, AV.int IntKind.i64 0,
                                          AV.int IntKind.i64 (IntKind.i64.wrap (told0.tmod 24)),
                                          AV.int IntKind.i64 (IntKind.i64.wrap (told0.tmod 3)), AV.int IntKind.i64 0,
                                          AV.int IntKind.i64 0, AV.int IntKind.i64 0, AV.str []],
                                      AV.agg
                                        [AV.int IntKind.i64 1, AV.int IntKind.i64 2, AV.int IntKind.i64 0,
                                          AV.int IntKind.i64 (IntKind.i64.wrap (told1.tmod 24)),
                                          AV.int IntKind.i64 (IntKind.i64.wrap (told1.tmod 3)), AV.int IntKind.i64 0,
                                          AV.int IntKind.i64 0, AV.int IntKind.i64 0, AV.str []],
                                      AV.agg
                                        [AV.int IntKind.i64 1, AV.int IntKind.i64 3, AV.int IntKind.i64 0,
                                          AV.int IntKind.i64 (IntKind.i64.wrap (told2.tmod 24)),
                                          AV.int IntKind.i64 (IntKind.i64.wrap (told2.tmod 3)), AV.int IntKind.i64 0,
                                          AV.int IntKind.i64 0, AV.int IntKind.i64 0, AV.str []]],
                                  AV.slc false
                                    [AV.agg
                                        [AV.int IntKind.i64 (IntKind.i64.wrap (marks0.tmod 24)),
                                          AV.int IntKind.i64 (IntKind.i64.wrap (marks0.tmod 4)), AV.int IntKind.i64 1,
                                          AV.int IntKind.i64 7],
                                      AV.agg
                                        [AV.int IntKind.i64 (IntKind.i64.wrap (marks1.tmod 24)),
                                          AV.int IntKind.i64 (IntKind.i64.wrap (marks1.tmod 4)), AV.int IntKind.i64 2,
                                          AV.int IntKind.i64 7],
                                      AV.agg
                                        [AV.int IntKind.i64 (IntKind.i64.wrap (marks2.tmod 24)),
                                          AV.int IntKind.i64 (IntKind.i64.wrap (marks2.tmod 4)), AV.int IntKind.i64 3,
                                          AV.int IntKind.i64 7]],
                                  AV.agg
                                    [AV.int IntKind.i64 d35.fst, AV.int IntKind.i64 d35.snd.fst,
                                      AV.int IntKind.i64 d35.snd.snd.fst, AV.int IntKind.i64 d35.snd.snd.snd.fst,
                                      AV.str d35.snd.snd.snd.snd.fst, AV.int IntKind.i64 d35.snd.snd.snd.snd.snd.fst,
                                      AV.int IntKind.i64 d35.snd.snd.snd.snd.snd.snd.fst,
                                      AV.slc d35.snd.snd.snd.snd.snd.snd.snd.fst
                                        (List.map (mkV true Write_tfs) d35.snd.snd.snd.snd.snd.snd.snd.snd)]]
                                [])
                              fun
                                (d36 :
                                  Int ×
                                    (Bool × List Int) ×
                                      (Bool × List (Int × Int × Int × Int × Int × Int × Int × Int × List UInt8)) ×
                                        (Bool × List (Int × Int × Int × Int)) ×
                                          Int ×
                                            Int ×
                                              Int × Int × List UInt8 × Int × Int × Bool × List (Int × List UInt8)) =>
                              bK (!decide ((judgeG d34).fst = (judgeG d36).fst))
                                (some { pan := false, res := AV.bool false, out := [], new := [] })
                                (bK
                                  (!(decide ((judgeG d34).snd.fst = (judgeG d36).snd.fst) &&
                                      (decide ((judgeG d34).snd.snd.fst = (judgeG d36).snd.snd.fst) &&
                                        (decide ((judgeG d34).snd.snd.snd.fst = (judgeG d36).snd.snd.snd.fst) &&
                                          (decide
                                              ((judgeG d34).snd.snd.snd.snd.fst = (judgeG d36).snd.snd.snd.snd.fst) &&
                                            (decide
                                                ((judgeG d34).snd.snd.snd.snd.snd.fst =
                                                  (judgeG d36).snd.snd.snd.snd.snd.fst) &&
                                              (decide
                                                  ((judgeG d34).snd.snd.snd.snd.snd.snd.fst =
                                                    (judgeG d36).snd.snd.snd.snd.snd.snd.fst) &&
                                                (decide
                                                    ((judgeG d34).snd.snd.snd.snd.snd.snd.snd.fst =
                                                      (judgeG d36).snd.snd.snd.snd.snd.snd.snd.fst) &&
                                                  (decide
                                                      ((judgeG d34).snd.snd.snd.snd.snd.snd.snd.snd.fst =
                                                        (judgeG d36).snd.snd.snd.snd.snd.snd.snd.snd.fst) &&
                                                    (decide
                                                        ((judgeG d34).snd.snd.snd.snd.snd.snd.snd.snd.snd =
                                                          (judgeG d36).snd.snd.snd.snd.snd.snd.snd.snd.snd) &&
                                                      true))))))))))
                                  (some { pan := false, res := AV.bool false, out := [], new := [] })
                                  (bK (decide (less.tmod 2 = 0))
                                    (bK (decide (less.tmod 2 = 0))
                                      (bK
                                        (decide
                                            (10 ≤ IntKind.i64.wrap (IntKind.i64.wrap now - IntKind.i64.wrap last)) ==
                                          decide (10 ≤ IntKind.i64.wrap (IntKind.i64.wrap now - IntKind.i64.wrap last)))
                                        (bK (decide (less.tmod 2 = 0))
                                          (bK
                                            (decide
                                                (10 ≤
                                                  IntKind.i64.wrap
                                                    (IntKind.i64.wrap (IntKind.i64.wrap last + 9) -
                                                      IntKind.i64.wrap last)) ==
                                              false)
                                            (bK (decide (less.tmod 2 = 0))
                                              (some
                                                { pan := false,
                                                  res :=
                                                    AV.bool
                                                      (decide
                                                          (10 ≤
                                                            IntKind.i64.wrap
                                                              (IntKind.i64.wrap (IntKind.i64.wrap last + 10) -
                                                                IntKind.i64.wrap last)) ==
                                                        decide (less.tmod 2 = 0)),
                                                  out := [], new := [] })
                                              (some
                                                { pan := false, res := AV.bool (false == decide (less.tmod 2 = 0)),
                                                  out := [], new := [] }))
                                            (some { pan := false, res := AV.bool false, out := [], new := [] }))
                                          (bK (decide (less.tmod 2 = 0))
                                            (some
                                              { pan := false,
                                                res :=
                                                  AV.bool
                                                    (decide
                                                        (10 ≤
                                                          IntKind.i64.wrap
                                                            (IntKind.i64.wrap (IntKind.i64.wrap last + 10) -
                                                              IntKind.i64.wrap last)) ==
                                                      decide (less.tmod 2 = 0)),
                                                out := [], new := [] })
                                            (some
                                              { pan := false, res := AV.bool (false == decide (less.tmod 2 = 0)),
                                                out := [], new := [] })))
                                        (some { pan := false, res := AV.bool false, out := [], new := [] }))
                                      (bK
                                        (decide
                                            (10 ≤ IntKind.i64.wrap (IntKind.i64.wrap now - IntKind.i64.wrap last)) ==
                                          false)
                                        (bK (decide (less.tmod 2 = 0))
                                          (bK
                                            (decide
                                                (10 ≤
                                                  IntKind.i64.wrap
                                                    (IntKind.i64.wrap (IntKind.i64.wrap last + 9) -
                                                      IntKind.i64.wrap last)) ==
                                              false)
                                            (bK (decide (less.tmod 2 = 0))
                                              (some
                                                { pan := false,
                                                  res :=
                                                    AV.bool
                                                      (decide
                                                          (10 ≤
                                                            IntKind.i64.wrap
                                                              (IntKind.i64.wrap (IntKind.i64.wrap last + 10) -
                                                                IntKind.i64.wrap last)) ==
                                                        decide (less.tmod 2 = 0)),
                                                  out := [], new := [] })
                                              (some
                                                { pan := false, res := AV.bool (false == decide (less.tmod 2 = 0)),
                                                  out := [], new := [] }))
                                            (some { pan := false, res := AV.bool false, out := [], new := [] }))
                                          (bK (decide (less.tmod 2 = 0))
                                            (some
                                              { pan := false,
                                                res :=
                                                  AV.bool
                                                    (decide
                                                        (10 ≤
                                                          IntKind.i64.wrap
                                                            (IntKind.i64.wrap (IntKind.i64.wrap last + 10) -
                                                              IntKind.i64.wrap last)) ==
                                                      decide (less.tmod 2 = 0)),
                                                out := [], new := [] })
                                            (some
                                              { pan := false, res := AV.bool (false == decide (less.tmod 2 = 0)),
                                                out := [], new := [] })))
                                        (some { pan := false, res := AV.bool false, out := [], new := [] })))
                                    (bK (decide (less.tmod 2 = 0))
                                      (bK
                                        (false ==
                                          decide (10 ≤ IntKind.i64.wrap (IntKind.i64.wrap now - IntKind.i64.wrap last)))
                                        (bK (decide (less.tmod 2 = 0))
                                          (bK
                                            (decide
                                                (10 ≤
                                                  IntKind.i64.wrap
                                                    (IntKind.i64.wrap (IntKind.i64.wrap last + 9) -
                                                      IntKind.i64.wrap last)) ==
                                              false)
                                            (bK (decide (less.tmod 2 = 0))
                                              (some
                                                { pan := false,
                                                  res :=
                                                    AV.bool
                                                      (decide
                                                          (10 ≤
                                                            IntKind.i64.wrap
                                                              (IntKind.i64.wrap (IntKind.i64.wrap last + 10) -
                                                                IntKind.i64.wrap last)) ==
                                                        decide (less.tmod 2 = 0)),
                                                  out := [], new := [] })
                                              (some
                                                { pan := false, res := AV.bool (false == decide (less.tmod 2 = 0)),
                                                  out := [], new := [] }))
                                            (some { pan := false, res := AV.bool false, out := [], new := [] }))
                                          (bK (decide (less.tmod 2 = 0))
                                            (some
                                              { pan := false,
                                                res :=
                                                  AV.bool
                                                    (decide
                                                        (10 ≤
                                                          IntKind.i64.wrap
                                                            (IntKind.i64.wrap (IntKind.i64.wrap last + 10) -
                                                              IntKind.i64.wrap last)) ==
                                                      decide (less.tmod 2 = 0)),
                                                out := [], new := [] })
                                            (some
                                              { pan := false, res := AV.bool (false == decide (less.tmod 2 = 0)),
                                                out := [], new := [] })))
                                        (some { pan := false, res := AV.bool false, out := [], new := [] }))
                                      (bK (decide (less.tmod 2 = 0))
                                        (bK
                                          (decide
                                              (10 ≤
                                                IntKind.i64.wrap
                                                  (IntKind.i64.wrap (IntKind.i64.wrap last + 9) -
                                                    IntKind.i64.wrap last)) ==
                                            false)
                                          (bK (decide (less.tmod 2 = 0))
                                            (some
                                              { pan := false,
                                                res :=
                                                  AV.bool
                                                    (decide
                                                        (10 ≤
                                                          IntKind.i64.wrap
                                                            (IntKind.i64.wrap (IntKind.i64.wrap last + 10) -
                                                              IntKind.i64.wrap last)) ==
                                                      decide (less.tmod 2 = 0)),
                                                out := [], new := [] })
                                            (some
                                              { pan := false, res := AV.bool (false == decide (less.tmod 2 = 0)),
                                                out := [], new := [] }))
                                          (some { pan := false, res := AV.bool false, out := [], new := [] }))
                                        (bK (decide (less.tmod 2 = 0))
                                          (some
                                            { pan := false,
                                              res :=
                                                AV.bool
                                                  (decide
                                                      (10 ≤
                                                        IntKind.i64.wrap
                                                          (IntKind.i64.wrap (IntKind.i64.wrap last + 10) -
                                                            IntKind.i64.wrap last)) ==
                                                    decide (less.tmod 2 = 0)),
                                              out := [], new := [] })
                                          (some
                                            { pan := false, res := AV.bool (false == decide (less.tmod 2 = 0)),
                                              out := [], new := [] })))))))))))
theorem sessAll_w (picks_x : Bool) (picks : List Int) (seen0 : Int) (seen1 : Int) (seen2 : Int) (told0 : Int) (told1 : Int) (told2 : Int) (marks0 : Int) (marks1 : Int) (marks2 : Int) (epoch : Int) (wild_Kind : Int) (wild_From : Int) (wild_Epoch : Int) (wild_Seq : Int) (wild_Name : List UInt8) (wild_File : Int) (wild_Mode : Int) (wild_Writes_x : Bool) (wild_Writes : List Write_T) (less : Int) (last : Int) (now : Int) : unitQ Try.prog cfg PK6 LP0 true 3 (groupA sessAll_sh (Tu.mk sessAll_fs ((picks_x, picks), seen0, seen1, seen2, told0, told1, told2, marks0, marks1, marks2, epoch, wild_Kind, wild_From, wild_Epoch, wild_Seq, wild_Name, wild_File, wild_Mode, (wild_Writes_x, wild_Writes), less, last, now))) [] = sessAll_r picks_x picks seen0 seen1 seen2 told0 told1 told2 marks0 marks1 marks2 epoch wild_Kind wild_From wild_Epoch wild_Seq wild_Name wild_File wild_Mode wild_Writes_x wild_Writes less last now := by kernel_rfl

theorem sessAll_yes (picks_x : Bool) (picks : List Int) (seen0 : Int) (seen1 : Int) (seen2 : Int) (told0 : Int) (told1 : Int) (told2 : Int) (marks0 : Int) (marks1 : Int) (marks2 : Int) (epoch : Int) (wild_Kind : Int) (wild_From : Int) (wild_Epoch : Int) (wild_Seq : Int) (wild_Name : List UInt8) (wild_File : Int) (wild_Mode : Int) (wild_Writes_x : Bool) (wild_Writes : List Write_T) (less : Int) (last : Int) (now : Int) (h : Tu.wf sessAll_fs ((picks_x, picks), seen0, seen1, seen2, told0, told1, told2, marks0, marks1, marks2, epoch, wild_Kind, wild_From, wild_Epoch, wild_Seq, wild_Name, wild_File, wild_Mode, (wild_Writes_x, wild_Writes), less, last, now)) : Yes (sessAll_r picks_x picks seen0 seen1 seen2 told0 told1 told2 marks0 marks1 marks2 epoch wild_Kind wild_From wild_Epoch wild_Seq wild_Name wild_File wild_Mode wild_Writes_x wild_Writes less last now) := by
  obtain ⟨⟨_, hp⟩, _, _, _, _, _, _, _, _, _, _, _, _, _, _, _, _, _, _, hless, hlast, hnow⟩ := h
  unfold sessAll_r
  refine oK_fsq begunS () trivial ?_
  refine bK_iq (fun _ => yes_leaf) (fun c0 => ?_)
  have hlast : 0 ≤ last ∧ last ≤ 65535 := hlast
  have hnow : 0 ≤ now ∧ now ≤ 65535 := hnow
  have hp : ∀ v ∈ picks, 0 ≤ v ∧ v ≤ 255 := hp
  have hpk : pkOk ((picks_x, picks), 0) := by
    rw [List.length_map] at c0
    refine ⟨by simp, by simp, by simp only; omega, fun v hv => ?_⟩
    have := hp v hv
    omega
  have e1 : IntKind.i64.wrap last = last := w64 (by omega) (by omega)
  have e2 : IntKind.i64.wrap now = now := w64 (by omega) (by omega)
  have e3 : IntKind.i64.wrap (last + 9) = last + 9 := w64 (by omega) (by omega)
  have e4 : IntKind.i64.wrap (last + 9 - last) = 9 := by rw [w64 (by omega) (by omega)]; omega
  have e5 : IntKind.i64.wrap (last + 10) = last + 10 := w64 (by omega) (by omega)
  have e6 : IntKind.i64.wrap (last + 10 - last) = 10 := by rw [w64 (by omega) (by omega)]; omega
  refine bK_iq (fun _ => bK_iq (fun _ => ?_) (fun _ => ?_)) (fun _ => bK_iq (fun _ => ?_) (fun _ => ?_))
  · refine oK_msq askS ((picks_x, picks), 0) () hpk ?_
    generalize (askF ((picks_x, picks), 0)).2 = asked
    refine oK_q (ldRow_map (fs := Ask_tfs) rfl [(wild_Kind, wild_From, wild_Epoch, wild_Seq, wild_Name, wild_File, wild_Mode, wild_Writes_x, wild_Writes), asked] (i := 0) asked (by simp)) ?_
    refine oK_fsq judgeS (_, (false, [IntKind.i64.wrap (seen0.tmod 24), IntKind.i64.wrap (seen1.tmod 24)]), (false, [(1, 1, 0, IntKind.i64.wrap (told0.tmod 24), IntKind.i64.wrap (told0.tmod 3), 0, 0, 0, []), (1, 2, 0, IntKind.i64.wrap (told1.tmod 24), IntKind.i64.wrap (told1.tmod 3), 0, 0, 0, [])]), (false, [(IntKind.i64.wrap (marks0.tmod 24), IntKind.i64.wrap (marks0.tmod 4), 1, 7), (IntKind.i64.wrap (marks1.tmod 24), IntKind.i64.wrap (marks1.tmod 4), 2, 7), (IntKind.i64.wrap (marks2.tmod 24), IntKind.i64.wrap (marks2.tmod 4), 3, 7)]), (wild_Kind, wild_From, wild_Epoch, wild_Seq, wild_Name, wild_File, wild_Mode, wild_Writes_x, wild_Writes)) (show (3 : Nat) < 2 ^ 40 by decide) ?_
    refine oK_q (ldRow_map (fs := Ask_tfs) rfl [(wild_Kind, wild_From, wild_Epoch, wild_Seq, wild_Name, wild_File, wild_Mode, wild_Writes_x, wild_Writes), asked] (i := 0) asked (by simp)) ?_
    refine oK_fsq rjudgeS (_, (false, [IntKind.i64.wrap (seen0.tmod 24), IntKind.i64.wrap (seen1.tmod 24)]), (false, [(1, 1, 0, IntKind.i64.wrap (told0.tmod 24), IntKind.i64.wrap (told0.tmod 3), 0, 0, 0, []), (1, 2, 0, IntKind.i64.wrap (told1.tmod 24), IntKind.i64.wrap (told1.tmod 3), 0, 0, 0, [])]), (false, [(IntKind.i64.wrap (marks0.tmod 24), IntKind.i64.wrap (marks0.tmod 4), 1, 7), (IntKind.i64.wrap (marks1.tmod 24), IntKind.i64.wrap (marks1.tmod 4), 2, 7), (IntKind.i64.wrap (marks2.tmod 24), IntKind.i64.wrap (marks2.tmod 4), 3, 7)]), (wild_Kind, wild_From, wild_Epoch, wild_Seq, wild_Name, wild_File, wild_Mode, wild_Writes_x, wild_Writes)) (show (3 : Nat) < 2 ^ 40 by decide) ?_
    refine bK_fq (by simp) (bK_fq (by simp) ?_)
    refine oK_q (ldRow_map (fs := Ask_tfs) rfl [(wild_Kind, wild_From, wild_Epoch, wild_Seq, wild_Name, wild_File, wild_Mode, wild_Writes_x, wild_Writes), asked] (i := 1) asked (by simp)) ?_
    refine oK_fsq judgeS (_, (false, [IntKind.i64.wrap (seen0.tmod 24), IntKind.i64.wrap (seen1.tmod 24)]), (false, [(1, 1, 0, IntKind.i64.wrap (told0.tmod 24), IntKind.i64.wrap (told0.tmod 3), 0, 0, 0, []), (1, 2, 0, IntKind.i64.wrap (told1.tmod 24), IntKind.i64.wrap (told1.tmod 3), 0, 0, 0, [])]), (false, [(IntKind.i64.wrap (marks0.tmod 24), IntKind.i64.wrap (marks0.tmod 4), 1, 7), (IntKind.i64.wrap (marks1.tmod 24), IntKind.i64.wrap (marks1.tmod 4), 2, 7), (IntKind.i64.wrap (marks2.tmod 24), IntKind.i64.wrap (marks2.tmod 4), 3, 7)]), asked) (show (3 : Nat) < 2 ^ 40 by decide) ?_
    refine oK_q (ldRow_map (fs := Ask_tfs) rfl [(wild_Kind, wild_From, wild_Epoch, wild_Seq, wild_Name, wild_File, wild_Mode, wild_Writes_x, wild_Writes), asked] (i := 1) asked (by simp)) ?_
    refine oK_fsq rjudgeS (_, (false, [IntKind.i64.wrap (seen0.tmod 24), IntKind.i64.wrap (seen1.tmod 24)]), (false, [(1, 1, 0, IntKind.i64.wrap (told0.tmod 24), IntKind.i64.wrap (told0.tmod 3), 0, 0, 0, []), (1, 2, 0, IntKind.i64.wrap (told1.tmod 24), IntKind.i64.wrap (told1.tmod 3), 0, 0, 0, [])]), (false, [(IntKind.i64.wrap (marks0.tmod 24), IntKind.i64.wrap (marks0.tmod 4), 1, 7), (IntKind.i64.wrap (marks1.tmod 24), IntKind.i64.wrap (marks1.tmod 4), 2, 7), (IntKind.i64.wrap (marks2.tmod 24), IntKind.i64.wrap (marks2.tmod 4), 3, 7)]), asked) (show (3 : Nat) < 2 ^ 40 by decide) ?_
    refine bK_fq (by simp) (bK_fq (by simp) ?_)
    rw [e1, e2, e3, e4, e5, e6]
    by_cases hl : less.tmod 2 = 0 <;> simp [hl, Yes, bK]
  · refine oK_msq askS ((picks_x, picks), 0) () hpk ?_
    generalize (askF ((picks_x, picks), 0)).2 = asked
    refine oK_q (ldRow_map (fs := Ask_tfs) rfl [(wild_Kind, wild_From, wild_Epoch, wild_Seq, wild_Name, wild_File, wild_Mode, wild_Writes_x, wild_Writes), asked] (i := 0) asked (by simp)) ?_
    refine oK_fsq judgeS (_, (false, [IntKind.i64.wrap (seen0.tmod 24), IntKind.i64.wrap (seen1.tmod 24)]), (false, [(1, 1, 0, IntKind.i64.wrap (told0.tmod 24), IntKind.i64.wrap (told0.tmod 3), 0, 0, 0, []), (1, 2, 0, IntKind.i64.wrap (told1.tmod 24), IntKind.i64.wrap (told1.tmod 3), 0, 0, 0, []), (1, 3, 0, IntKind.i64.wrap (told2.tmod 24), IntKind.i64.wrap (told2.tmod 3), 0, 0, 0, [])]), (false, [(IntKind.i64.wrap (marks0.tmod 24), IntKind.i64.wrap (marks0.tmod 4), 1, 7), (IntKind.i64.wrap (marks1.tmod 24), IntKind.i64.wrap (marks1.tmod 4), 2, 7), (IntKind.i64.wrap (marks2.tmod 24), IntKind.i64.wrap (marks2.tmod 4), 3, 7)]), (wild_Kind, wild_From, wild_Epoch, wild_Seq, wild_Name, wild_File, wild_Mode, wild_Writes_x, wild_Writes)) (show (3 : Nat) < 2 ^ 40 by decide) ?_
    refine oK_q (ldRow_map (fs := Ask_tfs) rfl [(wild_Kind, wild_From, wild_Epoch, wild_Seq, wild_Name, wild_File, wild_Mode, wild_Writes_x, wild_Writes), asked] (i := 0) asked (by simp)) ?_
    refine oK_fsq rjudgeS (_, (false, [IntKind.i64.wrap (seen0.tmod 24), IntKind.i64.wrap (seen1.tmod 24)]), (false, [(1, 1, 0, IntKind.i64.wrap (told0.tmod 24), IntKind.i64.wrap (told0.tmod 3), 0, 0, 0, []), (1, 2, 0, IntKind.i64.wrap (told1.tmod 24), IntKind.i64.wrap (told1.tmod 3), 0, 0, 0, []), (1, 3, 0, IntKind.i64.wrap (told2.tmod 24), IntKind.i64.wrap (told2.tmod 3), 0, 0, 0, [])]), (false, [(IntKind.i64.wrap (marks0.tmod 24), IntKind.i64.wrap (marks0.tmod 4), 1, 7), (IntKind.i64.wrap (marks1.tmod 24), IntKind.i64.wrap (marks1.tmod 4), 2, 7), (IntKind.i64.wrap (marks2.tmod 24), IntKind.i64.wrap (marks2.tmod 4), 3, 7)]), (wild_Kind, wild_From, wild_Epoch, wild_Seq, wild_Name, wild_File, wild_Mode, wild_Writes_x, wild_Writes)) (show (3 : Nat) < 2 ^ 40 by decide) ?_
    refine bK_fq (by simp) (bK_fq (by simp) ?_)
    refine oK_q (ldRow_map (fs := Ask_tfs) rfl [(wild_Kind, wild_From, wild_Epoch, wild_Seq, wild_Name, wild_File, wild_Mode, wild_Writes_x, wild_Writes), asked] (i := 1) asked (by simp)) ?_
    refine oK_fsq judgeS (_, (false, [IntKind.i64.wrap (seen0.tmod 24), IntKind.i64.wrap (seen1.tmod 24)]), (false, [(1, 1, 0, IntKind.i64.wrap (told0.tmod 24), IntKind.i64.wrap (told0.tmod 3), 0, 0, 0, []), (1, 2, 0, IntKind.i64.wrap (told1.tmod 24), IntKind.i64.wrap (told1.tmod 3), 0, 0, 0, []), (1, 3, 0, IntKind.i64.wrap (told2.tmod 24), IntKind.i64.wrap (told2.tmod 3), 0, 0, 0, [])]), (false, [(IntKind.i64.wrap (marks0.tmod 24), IntKind.i64.wrap (marks0.tmod 4), 1, 7), (IntKind.i64.wrap (marks1.tmod 24), IntKind.i64.wrap (marks1.tmod 4), 2, 7), (IntKind.i64.wrap (marks2.tmod 24), IntKind.i64.wrap (marks2.tmod 4), 3, 7)]), asked) (show (3 : Nat) < 2 ^ 40 by decide) ?_
    refine oK_q (ldRow_map (fs := Ask_tfs) rfl [(wild_Kind, wild_From, wild_Epoch, wild_Seq, wild_Name, wild_File, wild_Mode, wild_Writes_x, wild_Writes), asked] (i := 1) asked (by simp)) ?_
    refine oK_fsq rjudgeS (_, (false, [IntKind.i64.wrap (seen0.tmod 24), IntKind.i64.wrap (seen1.tmod 24)]), (false, [(1, 1, 0, IntKind.i64.wrap (told0.tmod 24), IntKind.i64.wrap (told0.tmod 3), 0, 0, 0, []), (1, 2, 0, IntKind.i64.wrap (told1.tmod 24), IntKind.i64.wrap (told1.tmod 3), 0, 0, 0, []), (1, 3, 0, IntKind.i64.wrap (told2.tmod 24), IntKind.i64.wrap (told2.tmod 3), 0, 0, 0, [])]), (false, [(IntKind.i64.wrap (marks0.tmod 24), IntKind.i64.wrap (marks0.tmod 4), 1, 7), (IntKind.i64.wrap (marks1.tmod 24), IntKind.i64.wrap (marks1.tmod 4), 2, 7), (IntKind.i64.wrap (marks2.tmod 24), IntKind.i64.wrap (marks2.tmod 4), 3, 7)]), asked) (show (3 : Nat) < 2 ^ 40 by decide) ?_
    refine bK_fq (by simp) (bK_fq (by simp) ?_)
    rw [e1, e2, e3, e4, e5, e6]
    by_cases hl : less.tmod 2 = 0 <;> simp [hl, Yes, bK]
  · refine oK_msq askS ((picks_x, picks), 0) () hpk ?_
    generalize (askF ((picks_x, picks), 0)).2 = asked
    refine oK_q (ldRow_map (fs := Ask_tfs) rfl [(wild_Kind, wild_From, wild_Epoch, wild_Seq, wild_Name, wild_File, wild_Mode, wild_Writes_x, wild_Writes), asked] (i := 0) asked (by simp)) ?_
    refine oK_fsq judgeS (_, (false, [IntKind.i64.wrap (seen0.tmod 24), IntKind.i64.wrap (seen1.tmod 24), IntKind.i64.wrap (seen2.tmod 24)]), (false, [(1, 1, 0, IntKind.i64.wrap (told0.tmod 24), IntKind.i64.wrap (told0.tmod 3), 0, 0, 0, []), (1, 2, 0, IntKind.i64.wrap (told1.tmod 24), IntKind.i64.wrap (told1.tmod 3), 0, 0, 0, [])]), (false, [(IntKind.i64.wrap (marks0.tmod 24), IntKind.i64.wrap (marks0.tmod 4), 1, 7), (IntKind.i64.wrap (marks1.tmod 24), IntKind.i64.wrap (marks1.tmod 4), 2, 7), (IntKind.i64.wrap (marks2.tmod 24), IntKind.i64.wrap (marks2.tmod 4), 3, 7)]), (wild_Kind, wild_From, wild_Epoch, wild_Seq, wild_Name, wild_File, wild_Mode, wild_Writes_x, wild_Writes)) (show (3 : Nat) < 2 ^ 40 by decide) ?_
    refine oK_q (ldRow_map (fs := Ask_tfs) rfl [(wild_Kind, wild_From, wild_Epoch, wild_Seq, wild_Name, wild_File, wild_Mode, wild_Writes_x, wild_Writes), asked] (i := 0) asked (by simp)) ?_
    refine oK_fsq rjudgeS (_, (false, [IntKind.i64.wrap (seen0.tmod 24), IntKind.i64.wrap (seen1.tmod 24), IntKind.i64.wrap (seen2.tmod 24)]), (false, [(1, 1, 0, IntKind.i64.wrap (told0.tmod 24), IntKind.i64.wrap (told0.tmod 3), 0, 0, 0, []), (1, 2, 0, IntKind.i64.wrap (told1.tmod 24), IntKind.i64.wrap (told1.tmod 3), 0, 0, 0, [])]), (false, [(IntKind.i64.wrap (marks0.tmod 24), IntKind.i64.wrap (marks0.tmod 4), 1, 7), (IntKind.i64.wrap (marks1.tmod 24), IntKind.i64.wrap (marks1.tmod 4), 2, 7), (IntKind.i64.wrap (marks2.tmod 24), IntKind.i64.wrap (marks2.tmod 4), 3, 7)]), (wild_Kind, wild_From, wild_Epoch, wild_Seq, wild_Name, wild_File, wild_Mode, wild_Writes_x, wild_Writes)) (show (3 : Nat) < 2 ^ 40 by decide) ?_
    refine bK_fq (by simp) (bK_fq (by simp) ?_)
    refine oK_q (ldRow_map (fs := Ask_tfs) rfl [(wild_Kind, wild_From, wild_Epoch, wild_Seq, wild_Name, wild_File, wild_Mode, wild_Writes_x, wild_Writes), asked] (i := 1) asked (by simp)) ?_
    refine oK_fsq judgeS (_, (false, [IntKind.i64.wrap (seen0.tmod 24), IntKind.i64.wrap (seen1.tmod 24), IntKind.i64.wrap (seen2.tmod 24)]), (false, [(1, 1, 0, IntKind.i64.wrap (told0.tmod 24), IntKind.i64.wrap (told0.tmod 3), 0, 0, 0, []), (1, 2, 0, IntKind.i64.wrap (told1.tmod 24), IntKind.i64.wrap (told1.tmod 3), 0, 0, 0, [])]), (false, [(IntKind.i64.wrap (marks0.tmod 24), IntKind.i64.wrap (marks0.tmod 4), 1, 7), (IntKind.i64.wrap (marks1.tmod 24), IntKind.i64.wrap (marks1.tmod 4), 2, 7), (IntKind.i64.wrap (marks2.tmod 24), IntKind.i64.wrap (marks2.tmod 4), 3, 7)]), asked) (show (3 : Nat) < 2 ^ 40 by decide) ?_
    refine oK_q (ldRow_map (fs := Ask_tfs) rfl [(wild_Kind, wild_From, wild_Epoch, wild_Seq, wild_Name, wild_File, wild_Mode, wild_Writes_x, wild_Writes), asked] (i := 1) asked (by simp)) ?_
    refine oK_fsq rjudgeS (_, (false, [IntKind.i64.wrap (seen0.tmod 24), IntKind.i64.wrap (seen1.tmod 24), IntKind.i64.wrap (seen2.tmod 24)]), (false, [(1, 1, 0, IntKind.i64.wrap (told0.tmod 24), IntKind.i64.wrap (told0.tmod 3), 0, 0, 0, []), (1, 2, 0, IntKind.i64.wrap (told1.tmod 24), IntKind.i64.wrap (told1.tmod 3), 0, 0, 0, [])]), (false, [(IntKind.i64.wrap (marks0.tmod 24), IntKind.i64.wrap (marks0.tmod 4), 1, 7), (IntKind.i64.wrap (marks1.tmod 24), IntKind.i64.wrap (marks1.tmod 4), 2, 7), (IntKind.i64.wrap (marks2.tmod 24), IntKind.i64.wrap (marks2.tmod 4), 3, 7)]), asked) (show (3 : Nat) < 2 ^ 40 by decide) ?_
    refine bK_fq (by simp) (bK_fq (by simp) ?_)
    rw [e1, e2, e3, e4, e5, e6]
    by_cases hl : less.tmod 2 = 0 <;> simp [hl, Yes, bK]
  · refine oK_msq askS ((picks_x, picks), 0) () hpk ?_
    generalize (askF ((picks_x, picks), 0)).2 = asked
    refine oK_q (ldRow_map (fs := Ask_tfs) rfl [(wild_Kind, wild_From, wild_Epoch, wild_Seq, wild_Name, wild_File, wild_Mode, wild_Writes_x, wild_Writes), asked] (i := 0) asked (by simp)) ?_
    refine oK_fsq judgeS (_, (false, [IntKind.i64.wrap (seen0.tmod 24), IntKind.i64.wrap (seen1.tmod 24), IntKind.i64.wrap (seen2.tmod 24)]), (false, [(1, 1, 0, IntKind.i64.wrap (told0.tmod 24), IntKind.i64.wrap (told0.tmod 3), 0, 0, 0, []), (1, 2, 0, IntKind.i64.wrap (told1.tmod 24), IntKind.i64.wrap (told1.tmod 3), 0, 0, 0, []), (1, 3, 0, IntKind.i64.wrap (told2.tmod 24), IntKind.i64.wrap (told2.tmod 3), 0, 0, 0, [])]), (false, [(IntKind.i64.wrap (marks0.tmod 24), IntKind.i64.wrap (marks0.tmod 4), 1, 7), (IntKind.i64.wrap (marks1.tmod 24), IntKind.i64.wrap (marks1.tmod 4), 2, 7), (IntKind.i64.wrap (marks2.tmod 24), IntKind.i64.wrap (marks2.tmod 4), 3, 7)]), (wild_Kind, wild_From, wild_Epoch, wild_Seq, wild_Name, wild_File, wild_Mode, wild_Writes_x, wild_Writes)) (show (3 : Nat) < 2 ^ 40 by decide) ?_
    refine oK_q (ldRow_map (fs := Ask_tfs) rfl [(wild_Kind, wild_From, wild_Epoch, wild_Seq, wild_Name, wild_File, wild_Mode, wild_Writes_x, wild_Writes), asked] (i := 0) asked (by simp)) ?_
    refine oK_fsq rjudgeS (_, (false, [IntKind.i64.wrap (seen0.tmod 24), IntKind.i64.wrap (seen1.tmod 24), IntKind.i64.wrap (seen2.tmod 24)]), (false, [(1, 1, 0, IntKind.i64.wrap (told0.tmod 24), IntKind.i64.wrap (told0.tmod 3), 0, 0, 0, []), (1, 2, 0, IntKind.i64.wrap (told1.tmod 24), IntKind.i64.wrap (told1.tmod 3), 0, 0, 0, []), (1, 3, 0, IntKind.i64.wrap (told2.tmod 24), IntKind.i64.wrap (told2.tmod 3), 0, 0, 0, [])]), (false, [(IntKind.i64.wrap (marks0.tmod 24), IntKind.i64.wrap (marks0.tmod 4), 1, 7), (IntKind.i64.wrap (marks1.tmod 24), IntKind.i64.wrap (marks1.tmod 4), 2, 7), (IntKind.i64.wrap (marks2.tmod 24), IntKind.i64.wrap (marks2.tmod 4), 3, 7)]), (wild_Kind, wild_From, wild_Epoch, wild_Seq, wild_Name, wild_File, wild_Mode, wild_Writes_x, wild_Writes)) (show (3 : Nat) < 2 ^ 40 by decide) ?_
    refine bK_fq (by simp) (bK_fq (by simp) ?_)
    refine oK_q (ldRow_map (fs := Ask_tfs) rfl [(wild_Kind, wild_From, wild_Epoch, wild_Seq, wild_Name, wild_File, wild_Mode, wild_Writes_x, wild_Writes), asked] (i := 1) asked (by simp)) ?_
    refine oK_fsq judgeS (_, (false, [IntKind.i64.wrap (seen0.tmod 24), IntKind.i64.wrap (seen1.tmod 24), IntKind.i64.wrap (seen2.tmod 24)]), (false, [(1, 1, 0, IntKind.i64.wrap (told0.tmod 24), IntKind.i64.wrap (told0.tmod 3), 0, 0, 0, []), (1, 2, 0, IntKind.i64.wrap (told1.tmod 24), IntKind.i64.wrap (told1.tmod 3), 0, 0, 0, []), (1, 3, 0, IntKind.i64.wrap (told2.tmod 24), IntKind.i64.wrap (told2.tmod 3), 0, 0, 0, [])]), (false, [(IntKind.i64.wrap (marks0.tmod 24), IntKind.i64.wrap (marks0.tmod 4), 1, 7), (IntKind.i64.wrap (marks1.tmod 24), IntKind.i64.wrap (marks1.tmod 4), 2, 7), (IntKind.i64.wrap (marks2.tmod 24), IntKind.i64.wrap (marks2.tmod 4), 3, 7)]), asked) (show (3 : Nat) < 2 ^ 40 by decide) ?_
    refine oK_q (ldRow_map (fs := Ask_tfs) rfl [(wild_Kind, wild_From, wild_Epoch, wild_Seq, wild_Name, wild_File, wild_Mode, wild_Writes_x, wild_Writes), asked] (i := 1) asked (by simp)) ?_
    refine oK_fsq rjudgeS (_, (false, [IntKind.i64.wrap (seen0.tmod 24), IntKind.i64.wrap (seen1.tmod 24), IntKind.i64.wrap (seen2.tmod 24)]), (false, [(1, 1, 0, IntKind.i64.wrap (told0.tmod 24), IntKind.i64.wrap (told0.tmod 3), 0, 0, 0, []), (1, 2, 0, IntKind.i64.wrap (told1.tmod 24), IntKind.i64.wrap (told1.tmod 3), 0, 0, 0, []), (1, 3, 0, IntKind.i64.wrap (told2.tmod 24), IntKind.i64.wrap (told2.tmod 3), 0, 0, 0, [])]), (false, [(IntKind.i64.wrap (marks0.tmod 24), IntKind.i64.wrap (marks0.tmod 4), 1, 7), (IntKind.i64.wrap (marks1.tmod 24), IntKind.i64.wrap (marks1.tmod 4), 2, 7), (IntKind.i64.wrap (marks2.tmod 24), IntKind.i64.wrap (marks2.tmod 4), 3, 7)]), asked) (show (3 : Nat) < 2 ^ 40 by decide) ?_
    refine bK_fq (by simp) (bK_fq (by simp) ?_)
    rw [e1, e2, e3, e4, e5, e6]
    by_cases hl : less.tmod 2 = 0 <;> simp [hl, Yes, bK]

end Go.Proofs.Ytjohkibidibihaa
