/- A part of the proof: contracts of functions. -/
import Derived.Test.YtjohkibidibihaaA
import Derived.Test.YtjohkibidibihaaAbLp
set_option linter.unusedVariables false
set_option linter.unusedSimpArgs false
set_option maxRecDepth 100000
namespace Go.Proofs.Ytjohkibidibihaa
open Go Go.Ab
abbrev B2 : Type := Int × Int
def nxHd (x : Bool) (l : List B2) (S : List Int) (T : List Tell_T) (M : List Mark_T) (n0 n1 n2 : Int) (i : Int) : St :=
  { fr := [(0, .slc x (l.map (mkV true [.fi .u8, .fi .u8]))), (3, .sref 256 0 0 3), (4, .sref 272 0 0 3), (5, .sref 288 0 0 3), (6, .ptr 96 0 0 0), (7, .int .i64 i)],
    bs := [(96, { v := 0, k := .box, fz := false, sz := 0, es := [.int .i64 n0, .int .i64 n1, .int .i64 n2] }), (256, { v := 0, k := .row, fz := false, sz := 1, es := S.map (mkV false [.fi .i64]) }),
      (272, { v := 0, k := .row, fz := false, sz := 9, es := T.map (mkV true Tell_tfs) }), (288, { v := 0, k := .row, fz := false, sz := 4, es := M.map (mkV true Mark_tfs) })], df := [] }
noncomputable def nx_s (x : Bool) (l : List B2) (S : List Int) (T : List Tell_T) (M : List Mark_T) (n0 n1 n2 : Int) (i : Int) : Option (St ⊕ (Ex × St)) := stepK Try.prog cfg PK6 LP0 6 0 (nxHd x l S T M n0 n1 n2 i)
noncomputable def nx_s_r (x : Bool) (l : List B2) (S : List Int) (T : List Tell_T) (M : List Mark_T) (n0 : Int) (n1 : Int) (n2 : Int) (i : Int) : Option (St ⊕ Ex × St) :=
  bK (decide (i < (↑(List.map (mkV true [Lf.fi IntKind.u8, Lf.fi IntKind.u8]) l).length : Int)))
  (oK (elemAt true [Lf.fi IntKind.u8, Lf.fi IntKind.u8] (List.map (mkV true [Lf.fi IntKind.u8, Lf.fi IntKind.u8]) l) i)
    fun (d0 : Int × Int) =>
    bK (decide (IntKind.i64.wrap (Int.tmod d0.fst 3) = 0))
      (oK
        (elemAt true [Lf.fi IntKind.u8, Lf.fi IntKind.u8] (List.map (mkV true [Lf.fi IntKind.u8, Lf.fi IntKind.u8]) l)
          i)
        fun (d1 : Int × Int) =>
        bK (decide (3 ≤ (List.map (mkV false [Lf.fi IntKind.i64]) S).length))
          (bK (decide (3 ≤ (List.map (mkV true Tell_tfs) T).length))
            (bK (decide (3 ≤ (List.map (mkV true Mark_tfs) M).length))
              (oK
                (judgeS.dec
                  [AV.int IntKind.i64 7,
                    AV.slc false (List.take 3 (List.drop 0 (List.map (mkV false [Lf.fi IntKind.i64]) S))),
                    AV.slc false (List.take 3 (List.drop 0 (List.map (mkV true Tell_tfs) T))),
                    AV.slc false (List.take 3 (List.drop 0 (List.map (mkV true Mark_tfs) M))),
                    AV.agg
                      [AV.int IntKind.i64 5, AV.int IntKind.i64 1, AV.int IntKind.i64 7,
                        AV.int IntKind.i64
                          (IntKind.i64.wrap (IntKind.i64.wrap (n0 + 1) + IntKind.i64.wrap (Int.tmod d1.snd 4))),
                        AV.str [], AV.int IntKind.i64 1, AV.int IntKind.i64 0, AV.slc true []]]
                  [])
                fun
                  (d2 :
                    Int ×
                      (Bool × List Int) ×
                        (Bool × List (Int × Int × Int × Int × Int × Int × Int × Int × List UInt8)) ×
                          (Bool × List (Int × Int × Int × Int)) ×
                            Int × Int × Int × Int × List UInt8 × Int × Int × Bool × List (Int × List UInt8)) =>
                bK (!decide ((judgeG d2).fst = 4))
                  (some
                    (Sum.inr
                      (Ex.ret,
                        {
                          fr :=
                            [(2, AV.bool false), (65, AV.bool true), (64, AV.skp), (63, AV.skp), (62, AV.skp),
                              (61, AV.bool true), (60, AV.bool !decide ((judgeG d2).fst = 4)),
                              (59, AV.int IntKind.i64 (judgeG d2).fst), (9, AV.int IntKind.i64 (judgeG d2).fst),
                              (10, AV.ptr 160 0 0 0),
                              (58,
                                AV.agg
                                  [AV.int IntKind.i64 (judgeG d2).snd.fst, AV.int IntKind.i64 (judgeG d2).snd.snd.fst,
                                    AV.int IntKind.i64 (judgeG d2).snd.snd.snd.fst,
                                    AV.int IntKind.i64 (judgeG d2).snd.snd.snd.snd.fst,
                                    AV.int IntKind.i64 (judgeG d2).snd.snd.snd.snd.snd.fst,
                                    AV.int IntKind.i64 (judgeG d2).snd.snd.snd.snd.snd.snd.fst,
                                    AV.int IntKind.i64 (judgeG d2).snd.snd.snd.snd.snd.snd.snd.fst,
                                    AV.int IntKind.i64 (judgeG d2).snd.snd.snd.snd.snd.snd.snd.snd.fst,
                                    AV.str (judgeG d2).snd.snd.snd.snd.snd.snd.snd.snd.snd]),
                              (57, AV.int IntKind.i64 (judgeG d2).fst),
                              (46,
                                AV.tup
                                  [AV.int IntKind.i64 (judgeG d2).fst,
                                    AV.agg
                                      [AV.int IntKind.i64 (judgeG d2).snd.fst,
                                        AV.int IntKind.i64 (judgeG d2).snd.snd.fst,
                                        AV.int IntKind.i64 (judgeG d2).snd.snd.snd.fst,
                                        AV.int IntKind.i64 (judgeG d2).snd.snd.snd.snd.fst,
                                        AV.int IntKind.i64 (judgeG d2).snd.snd.snd.snd.snd.fst,
                                        AV.int IntKind.i64 (judgeG d2).snd.snd.snd.snd.snd.snd.fst,
                                        AV.int IntKind.i64 (judgeG d2).snd.snd.snd.snd.snd.snd.snd.fst,
                                        AV.int IntKind.i64 (judgeG d2).snd.snd.snd.snd.snd.snd.snd.snd.fst,
                                        AV.str (judgeG d2).snd.snd.snd.snd.snd.snd.snd.snd.snd]]),
                              (56,
                                AV.tup
                                  [AV.int IntKind.i64 (judgeG d2).fst,
                                    AV.agg
                                      [AV.int IntKind.i64 (judgeG d2).snd.fst,
                                        AV.int IntKind.i64 (judgeG d2).snd.snd.fst,
                                        AV.int IntKind.i64 (judgeG d2).snd.snd.snd.fst,
                                        AV.int IntKind.i64 (judgeG d2).snd.snd.snd.snd.fst,
                                        AV.int IntKind.i64 (judgeG d2).snd.snd.snd.snd.snd.fst,
                                        AV.int IntKind.i64 (judgeG d2).snd.snd.snd.snd.snd.snd.fst,
                                        AV.int IntKind.i64 (judgeG d2).snd.snd.snd.snd.snd.snd.snd.fst,
                                        AV.int IntKind.i64 (judgeG d2).snd.snd.snd.snd.snd.snd.snd.snd.fst,
                                        AV.str (judgeG d2).snd.snd.snd.snd.snd.snd.snd.snd.snd]]),
                              (55,
                                AV.agg
                                  [AV.int IntKind.i64 5, AV.int IntKind.i64 1, AV.int IntKind.i64 7,
                                    AV.int IntKind.i64
                                      (IntKind.i64.wrap
                                        (IntKind.i64.wrap (n0 + 1) + IntKind.i64.wrap (Int.tmod d1.snd 4))),
                                    AV.str [], AV.int IntKind.i64 1, AV.int IntKind.i64 0, AV.slc true []]),
                              (54,
                                AV.int IntKind.i64
                                  (IntKind.i64.wrap
                                    (IntKind.i64.wrap (n0 + 1) + IntKind.i64.wrap (Int.tmod d1.snd 4)))),
                              (53, AV.ptr 96 0 0 0), (52, AV.int IntKind.i64 0), (51, AV.int IntKind.i64 1),
                              (50, AV.int IntKind.i64 0), (49, AV.sref 288 0 0 3), (48, AV.sref 272 0 0 3),
                              (47, AV.sref 256 0 0 3), (45, AV.ptr 96 0 0 0),
                              (44,
                                AV.int IntKind.i64
                                  (IntKind.i64.wrap
                                    (IntKind.i64.wrap (n0 + 1) + IntKind.i64.wrap (Int.tmod d1.snd 4)))),
                              (43, AV.int IntKind.i64 (IntKind.i64.wrap (Int.tmod d1.snd 4))),
                              (42, AV.int IntKind.u8 (Int.tmod d1.snd 4)), (41, AV.int IntKind.u8 d1.snd),
                              (40, (AV.agg [AV.int IntKind.u8 d1.fst, AV.int IntKind.u8 d1.snd]).eptr 1),
                              (39, (AV.agg [AV.int IntKind.u8 d1.fst, AV.int IntKind.u8 d1.snd]).eptr 0),
                              (38, AV.int IntKind.i64 i),
                              (37, AV.slc x (List.map (mkV true [Lf.fi IntKind.u8, Lf.fi IntKind.u8]) l)),
                              (36, AV.int IntKind.i64 (IntKind.i64.wrap (n0 + 1))), (35, AV.int IntKind.i64 n0),
                              (34, AV.ptr 96 0 0 0), (33, AV.int IntKind.i64 0), (32, AV.int IntKind.i64 0),
                              (8, AV.int IntKind.i64 0), (31, AV.int IntKind.i64 0),
                              (30, AV.int IntKind.u8 (Int.tmod d0.fst 3)), (29, AV.int IntKind.u8 d0.fst),
                              (28, (AV.agg [AV.int IntKind.u8 d0.fst, AV.int IntKind.u8 d0.snd]).eptr 0),
                              (27, (AV.agg [AV.int IntKind.u8 d0.fst, AV.int IntKind.u8 d0.snd]).eptr 0),
                              (26, AV.int IntKind.i64 i),
                              (25, AV.slc x (List.map (mkV true [Lf.fi IntKind.u8, Lf.fi IntKind.u8]) l)),
                              (22, AV.bool true),
                              (21,
                                AV.int IntKind.i64
                                  (↑(List.map (mkV true [Lf.fi IntKind.u8, Lf.fi IntKind.u8]) l).length : Int)),
                              (20, AV.slc x (List.map (mkV true [Lf.fi IntKind.u8, Lf.fi IntKind.u8]) l)),
                              (19, AV.int IntKind.i64 i),
                              (0, AV.slc x (List.map (mkV true [Lf.fi IntKind.u8, Lf.fi IntKind.u8]) l)),
                              (3, AV.sref 256 0 0 3), (4, AV.sref 272 0 0 3), (5, AV.sref 288 0 0 3),
                              (6, AV.ptr 96 0 0 0), (7, AV.int IntKind.i64 i)],
                          bs :=
                            [(160,
                                { v := 0, k := BK.box, fz := false, sz := 0,
                                  es :=
                                    [AV.int IntKind.i64 (judgeG d2).snd.fst, AV.int IntKind.i64 (judgeG d2).snd.snd.fst,
                                      AV.int IntKind.i64 (judgeG d2).snd.snd.snd.fst,
                                      AV.int IntKind.i64 (judgeG d2).snd.snd.snd.snd.fst,
                                      AV.int IntKind.i64 (judgeG d2).snd.snd.snd.snd.snd.fst,
                                      AV.int IntKind.i64 (judgeG d2).snd.snd.snd.snd.snd.snd.fst,
                                      AV.int IntKind.i64 (judgeG d2).snd.snd.snd.snd.snd.snd.snd.fst,
                                      AV.int IntKind.i64 (judgeG d2).snd.snd.snd.snd.snd.snd.snd.snd.fst,
                                      AV.str (judgeG d2).snd.snd.snd.snd.snd.snd.snd.snd.snd] }),
                              (160,
                                { v := 0, k := BK.box, fz := false, sz := 0,
                                  es :=
                                    [AV.int IntKind.i64 0, AV.int IntKind.i64 0, AV.int IntKind.i64 0,
                                      AV.int IntKind.i64 0, AV.int IntKind.i64 0, AV.int IntKind.i64 0,
                                      AV.int IntKind.i64 0, AV.int IntKind.i64 0, AV.str []] }),
                              (96,
                                { v := 0, k := BK.box, fz := false, sz := 0,
                                  es :=
                                    [AV.int IntKind.i64
                                        (IntKind.i64.wrap
                                          (IntKind.i64.wrap (n0 + 1) + IntKind.i64.wrap (Int.tmod d1.snd 4))),
                                      AV.int IntKind.i64 n1, AV.int IntKind.i64 n2] }),
                              (96,
                                { v := 0, k := BK.box, fz := false, sz := 0,
                                  es := [AV.int IntKind.i64 n0, AV.int IntKind.i64 n1, AV.int IntKind.i64 n2] }),
                              (256,
                                { v := 0, k := BK.row, fz := false, sz := 1,
                                  es := List.map (mkV false [Lf.fi IntKind.i64]) S }),
                              (272,
                                { v := 0, k := BK.row, fz := false, sz := 9, es := List.map (mkV true Tell_tfs) T }),
                              (288,
                                { v := 0, k := BK.row, fz := false, sz := 4, es := List.map (mkV true Mark_tfs) M })],
                          df := [] })))
                  (bK
                    (!(decide ((judgeG d2).snd.fst = 0) &&
                        (decide ((judgeG d2).snd.snd.fst = 0) &&
                          (decide ((judgeG d2).snd.snd.snd.fst = 0) &&
                            (decide ((judgeG d2).snd.snd.snd.snd.fst = 0) &&
                              (decide ((judgeG d2).snd.snd.snd.snd.snd.fst = 0) &&
                                (decide ((judgeG d2).snd.snd.snd.snd.snd.snd.fst = 0) &&
                                  (decide ((judgeG d2).snd.snd.snd.snd.snd.snd.snd.fst = 0) &&
                                    (decide ((judgeG d2).snd.snd.snd.snd.snd.snd.snd.snd.fst = 0) &&
                                      (decide ((judgeG d2).snd.snd.snd.snd.snd.snd.snd.snd.snd = []) && true))))))))))
                    (some
                      (Sum.inr
                        (Ex.ret,
                          {
                            fr :=
                              [(2, AV.bool false), (65, AV.bool true),
                                (64,
                                  AV.bool
                                    !(decide ((judgeG d2).snd.fst = 0) &&
                                        (decide ((judgeG d2).snd.snd.fst = 0) &&
                                          (decide ((judgeG d2).snd.snd.snd.fst = 0) &&
                                            (decide ((judgeG d2).snd.snd.snd.snd.fst = 0) &&
                                              (decide ((judgeG d2).snd.snd.snd.snd.snd.fst = 0) &&
                                                (decide ((judgeG d2).snd.snd.snd.snd.snd.snd.fst = 0) &&
                                                  (decide ((judgeG d2).snd.snd.snd.snd.snd.snd.snd.fst = 0) &&
                                                    (decide ((judgeG d2).snd.snd.snd.snd.snd.snd.snd.snd.fst = 0) &&
                                                      (decide ((judgeG d2).snd.snd.snd.snd.snd.snd.snd.snd.snd = []) &&
                                                        true)))))))))),
                                (63,
                                  AV.agg
                                    [AV.int IntKind.i64 0, AV.int IntKind.i64 0, AV.int IntKind.i64 0,
                                      AV.int IntKind.i64 0, AV.int IntKind.i64 0, AV.int IntKind.i64 0,
                                      AV.int IntKind.i64 0, AV.int IntKind.i64 0, AV.str []]),
                                (62,
                                  AV.agg
                                    [AV.int IntKind.i64 (judgeG d2).snd.fst, AV.int IntKind.i64 (judgeG d2).snd.snd.fst,
                                      AV.int IntKind.i64 (judgeG d2).snd.snd.snd.fst,
                                      AV.int IntKind.i64 (judgeG d2).snd.snd.snd.snd.fst,
                                      AV.int IntKind.i64 (judgeG d2).snd.snd.snd.snd.snd.fst,
                                      AV.int IntKind.i64 (judgeG d2).snd.snd.snd.snd.snd.snd.fst,
                                      AV.int IntKind.i64 (judgeG d2).snd.snd.snd.snd.snd.snd.snd.fst,
                                      AV.int IntKind.i64 (judgeG d2).snd.snd.snd.snd.snd.snd.snd.snd.fst,
                                      AV.str (judgeG d2).snd.snd.snd.snd.snd.snd.snd.snd.snd]),
                                (61, AV.bool false), (60, AV.bool !decide ((judgeG d2).fst = 4)),
                                (59, AV.int IntKind.i64 (judgeG d2).fst), (9, AV.int IntKind.i64 (judgeG d2).fst),
                                (10, AV.ptr 160 0 0 0),
                                (58,
                                  AV.agg
                                    [AV.int IntKind.i64 (judgeG d2).snd.fst, AV.int IntKind.i64 (judgeG d2).snd.snd.fst,
                                      AV.int IntKind.i64 (judgeG d2).snd.snd.snd.fst,
                                      AV.int IntKind.i64 (judgeG d2).snd.snd.snd.snd.fst,
                                      AV.int IntKind.i64 (judgeG d2).snd.snd.snd.snd.snd.fst,
                                      AV.int IntKind.i64 (judgeG d2).snd.snd.snd.snd.snd.snd.fst,
                                      AV.int IntKind.i64 (judgeG d2).snd.snd.snd.snd.snd.snd.snd.fst,
                                      AV.int IntKind.i64 (judgeG d2).snd.snd.snd.snd.snd.snd.snd.snd.fst,
                                      AV.str (judgeG d2).snd.snd.snd.snd.snd.snd.snd.snd.snd]),
                                (57, AV.int IntKind.i64 (judgeG d2).fst),
                                (46,
                                  AV.tup
                                    [AV.int IntKind.i64 (judgeG d2).fst,
                                      AV.agg
                                        [AV.int IntKind.i64 (judgeG d2).snd.fst,
                                          AV.int IntKind.i64 (judgeG d2).snd.snd.fst,
                                          AV.int IntKind.i64 (judgeG d2).snd.snd.snd.fst,
                                          AV.int IntKind.i64 (judgeG d2).snd.snd.snd.snd.fst,
                                          AV.int IntKind.i64 (judgeG d2).snd.snd.snd.snd.snd.fst,
                                          AV.int IntKind.i64 (judgeG d2).snd.snd.snd.snd.snd.snd.fst,
                                          AV.int IntKind.i64 (judgeG d2).snd.snd.snd.snd.snd.snd.snd.fst,
                                          AV.int IntKind.i64 (judgeG d2).snd.snd.snd.snd.snd.snd.snd.snd.fst,
                                          AV.str (judgeG d2).snd.snd.snd.snd.snd.snd.snd.snd.snd]]),
                                (56,
                                  AV.tup
                                    [AV.int IntKind.i64 (judgeG d2).fst,
                                      AV.agg
                                        [AV.int IntKind.i64 (judgeG d2).snd.fst,
                                          AV.int IntKind.i64 (judgeG d2).snd.snd.fst,
                                          AV.int IntKind.i64 (judgeG d2).snd.snd.snd.fst,
                                          AV.int IntKind.i64 (judgeG d2).snd.snd.snd.snd.fst,
                                          AV.int IntKind.i64 (judgeG d2).snd.snd.snd.snd.snd.fst,
                                          AV.int IntKind.i64 (judgeG d2).snd.snd.snd.snd.snd.snd.fst,
                                          AV.int IntKind.i64 (judgeG d2).snd.snd.snd.snd.snd.snd.snd.fst,
                                          AV.int IntKind.i64 (judgeG d2).snd.snd.snd.snd.snd.snd.snd.snd.fst,
                                          AV.str (judgeG d2).snd.snd.snd.snd.snd.snd.snd.snd.snd]]),
                                (55,
                                  AV.agg
                                    [AV.int IntKind.i64 5, AV.int IntKind.i64 1, AV.int IntKind.i64 7,
                                      AV.int IntKind.i64
                                        (IntKind.i64.wrap
                                          (IntKind.i64.wrap (n0 + 1) + IntKind.i64.wrap (Int.tmod d1.snd 4))),
                                      AV.str [], AV.int IntKind.i64 1, AV.int IntKind.i64 0, AV.slc true []]),
                                (54,
                                  AV.int IntKind.i64
                                    (IntKind.i64.wrap
                                      (IntKind.i64.wrap (n0 + 1) + IntKind.i64.wrap (Int.tmod d1.snd 4)))),
                                (53, AV.ptr 96 0 0 0), (52, AV.int IntKind.i64 0), (51, AV.int IntKind.i64 1),
                                (50, AV.int IntKind.i64 0), (49, AV.sref 288 0 0 3), (48, AV.sref 272 0 0 3),
                                (47, AV.sref 256 0 0 3), (45, AV.ptr 96 0 0 0),
                                (44,
                                  AV.int IntKind.i64
                                    (IntKind.i64.wrap
                                      (IntKind.i64.wrap (n0 + 1) + IntKind.i64.wrap (Int.tmod d1.snd 4)))),
                                (43, AV.int IntKind.i64 (IntKind.i64.wrap (Int.tmod d1.snd 4))),
                                (42, AV.int IntKind.u8 (Int.tmod d1.snd 4)), (41, AV.int IntKind.u8 d1.snd),
                                (40, (AV.agg [AV.int IntKind.u8 d1.fst, AV.int IntKind.u8 d1.snd]).eptr 1),
                                (39, (AV.agg [AV.int IntKind.u8 d1.fst, AV.int IntKind.u8 d1.snd]).eptr 0),
                                (38, AV.int IntKind.i64 i),
                                (37, AV.slc x (List.map (mkV true [Lf.fi IntKind.u8, Lf.fi IntKind.u8]) l)),
                                (36, AV.int IntKind.i64 (IntKind.i64.wrap (n0 + 1))), (35, AV.int IntKind.i64 n0),
                                (34, AV.ptr 96 0 0 0), (33, AV.int IntKind.i64 0), (32, AV.int IntKind.i64 0),
                                (8, AV.int IntKind.i64 0), (31, AV.int IntKind.i64 0),
                                (30, AV.int IntKind.u8 (Int.tmod d0.fst 3)), (29, AV.int IntKind.u8 d0.fst),
                                (28, (AV.agg [AV.int IntKind.u8 d0.fst, AV.int IntKind.u8 d0.snd]).eptr 0),
                                (27, (AV.agg [AV.int IntKind.u8 d0.fst, AV.int IntKind.u8 d0.snd]).eptr 0),
                                (26, AV.int IntKind.i64 i),
                                (25, AV.slc x (List.map (mkV true [Lf.fi IntKind.u8, Lf.fi IntKind.u8]) l)),
                                (22, AV.bool true),
                                (21,
                                  AV.int IntKind.i64
                                    (↑(List.map (mkV true [Lf.fi IntKind.u8, Lf.fi IntKind.u8]) l).length : Int)),
                                (20, AV.slc x (List.map (mkV true [Lf.fi IntKind.u8, Lf.fi IntKind.u8]) l)),
                                (19, AV.int IntKind.i64 i),
                                (0, AV.slc x (List.map (mkV true [Lf.fi IntKind.u8, Lf.fi IntKind.u8]) l)),
                                (3, AV.sref 256 0 0 3), (4, AV.sref 272 0 0 3), (5, AV.sref 288 0 0 3),
                                (6, AV.ptr 96 0 0 0), (7, AV.int IntKind.i64 i)],
                            bs :=
                              [(160,
                                  { v := 0, k := BK.box, fz := false, sz := 0,
                                    es :=
                                      [AV.int IntKind.i64 (judgeG d2).snd.fst,
                                        AV.int IntKind.i64 (judgeG d2).snd.snd.fst,
                                        AV.int IntKind.i64 (judgeG d2).snd.snd.snd.fst,
                                        AV.int IntKind.i64 (judgeG d2).snd.snd.snd.snd.fst,
                                        AV.int IntKind.i64 (judgeG d2).snd.snd.snd.snd.snd.fst,
                                        AV.int IntKind.i64 (judgeG d2).snd.snd.snd.snd.snd.snd.fst,
                                        AV.int IntKind.i64 (judgeG d2).snd.snd.snd.snd.snd.snd.snd.fst,
                                        AV.int IntKind.i64 (judgeG d2).snd.snd.snd.snd.snd.snd.snd.snd.fst,
                                        AV.str (judgeG d2).snd.snd.snd.snd.snd.snd.snd.snd.snd] }),
                                (160,
                                  { v := 0, k := BK.box, fz := false, sz := 0,
                                    es :=
                                      [AV.int IntKind.i64 0, AV.int IntKind.i64 0, AV.int IntKind.i64 0,
                                        AV.int IntKind.i64 0, AV.int IntKind.i64 0, AV.int IntKind.i64 0,
                                        AV.int IntKind.i64 0, AV.int IntKind.i64 0, AV.str []] }),
                                (96,
                                  { v := 0, k := BK.box, fz := false, sz := 0,
                                    es :=
                                      [AV.int IntKind.i64
                                          (IntKind.i64.wrap
                                            (IntKind.i64.wrap (n0 + 1) + IntKind.i64.wrap (Int.tmod d1.snd 4))),
                                        AV.int IntKind.i64 n1, AV.int IntKind.i64 n2] }),
                                (96,
                                  { v := 0, k := BK.box, fz := false, sz := 0,
                                    es := [AV.int IntKind.i64 n0, AV.int IntKind.i64 n1, AV.int IntKind.i64 n2] }),
                                (256,
                                  { v := 0, k := BK.row, fz := false, sz := 1,
                                    es := List.map (mkV false [Lf.fi IntKind.i64]) S }),
                                (272,
                                  { v := 0, k := BK.row, fz := false, sz := 9, es := List.map (mkV true Tell_tfs) T }),
                                (288,
                                  { v := 0, k := BK.row, fz := false, sz := 4, es := List.map (mkV true Mark_tfs) M })],
                            df := [] })))
                    (oK
                      (stRow (List.map (mkV false [Lf.fi IntKind.i64]) S) 0 0
                        [AV.int IntKind.i64
                            (IntKind.i64.wrap (IntKind.i64.wrap (n0 + 1) + IntKind.i64.wrap (Int.tmod d1.snd 4)))])
                      fun (d3 : List AV) =>
                      oK
                        (stRow (List.map (mkV true Tell_tfs) T) 0 0
                          [AV.int IntKind.i64 1, AV.int IntKind.i64 1, AV.int IntKind.i64 7,
                            AV.int IntKind.i64
                              (IntKind.i64.wrap (IntKind.i64.wrap (n0 + 1) + IntKind.i64.wrap (Int.tmod d1.snd 4))),
                            AV.int IntKind.i64 0, AV.int IntKind.i64 0, AV.int IntKind.i64 0, AV.int IntKind.i64 0,
                            AV.str []])
                        fun (d4 : List AV) =>
                        oK
                          (elemAt true [Lf.fi IntKind.u8, Lf.fi IntKind.u8]
                            (List.map (mkV true [Lf.fi IntKind.u8, Lf.fi IntKind.u8]) l) i)
                          fun (d5 : Int × Int) =>
                          bK (decide (Int.tmod d5.snd 2 = 0))
                            (oK
                              (stRow (List.map (mkV true Mark_tfs) M) 0 0
                                [AV.int IntKind.i64
                                    (IntKind.i64.wrap
                                      (IntKind.i64.wrap (n0 + 1) + IntKind.i64.wrap (Int.tmod d1.snd 4))),
                                  AV.int IntKind.i64 0, AV.int IntKind.i64 1, AV.int IntKind.i64 0])
                              fun (d6 : List AV) =>
                              some
                                (Sum.inl
                                  {
                                    fr :=
                                      [(0, AV.slc x (List.map (mkV true [Lf.fi IntKind.u8, Lf.fi IntKind.u8]) l)),
                                        (3, AV.sref 256 0 0 3), (4, AV.sref 272 0 0 3), (5, AV.sref 288 0 0 3),
                                        (6, AV.ptr 96 0 0 0), (7, AV.int IntKind.i64 (IntKind.i64.wrap (i + 1)))],
                                    bs :=
                                      [(96,
                                          { v := 0, k := BK.box, fz := false, sz := 0,
                                            es :=
                                              [AV.int IntKind.i64
                                                  (IntKind.i64.wrap
                                                    (IntKind.i64.wrap (n0 + 1) + IntKind.i64.wrap (Int.tmod d1.snd 4))),
                                                AV.int IntKind.i64 n1, AV.int IntKind.i64 n2] }),
                                        (256, { v := 0, k := BK.row, fz := false, sz := 1, es := d3 }),
                                        (272, { v := 0, k := BK.row, fz := false, sz := 9, es := d4 }),
                                        (288, { v := 0, k := BK.row, fz := false, sz := 4, es := d6 })],
                                    df := [] }))
                            (some
                              (Sum.inl
                                {
                                  fr :=
                                    [(0, AV.slc x (List.map (mkV true [Lf.fi IntKind.u8, Lf.fi IntKind.u8]) l)),
                                      (3, AV.sref 256 0 0 3), (4, AV.sref 272 0 0 3), (5, AV.sref 288 0 0 3),
                                      (6, AV.ptr 96 0 0 0), (7, AV.int IntKind.i64 (IntKind.i64.wrap (i + 1)))],
                                  bs :=
                                    [(96,
                                        { v := 0, k := BK.box, fz := false, sz := 0,
                                          es :=
                                            [AV.int IntKind.i64
                                                (IntKind.i64.wrap
                                                  (IntKind.i64.wrap (n0 + 1) + IntKind.i64.wrap (Int.tmod d1.snd 4))),
                                              AV.int IntKind.i64 n1, AV.int IntKind.i64 n2] }),
                                      (256, { v := 0, k := BK.row, fz := false, sz := 1, es := d3 }),
                                      (272, { v := 0, k := BK.row, fz := false, sz := 9, es := d4 }),
                                      (288,
                                        { v := 0, k := BK.row, fz := false, sz := 4,
                                          es := List.map (mkV true Mark_tfs) M })],
                                  df := [] })))))
              none)
            none)
          none)
      (bK (decide (IntKind.i64.wrap (Int.tmod d0.fst 3) = 1))
        (oK
          (elemAt true [Lf.fi IntKind.u8, Lf.fi IntKind.u8] (List.map (mkV true [Lf.fi IntKind.u8, Lf.fi IntKind.u8]) l)
            i)
          fun (d7 : Int × Int) =>
          bK (decide (3 ≤ (List.map (mkV false [Lf.fi IntKind.i64]) S).length))
            (bK (decide (3 ≤ (List.map (mkV true Tell_tfs) T).length))
              (bK (decide (3 ≤ (List.map (mkV true Mark_tfs) M).length))
                (oK
                  (judgeS.dec
                    [AV.int IntKind.i64 7,
                      AV.slc false (List.take 3 (List.drop 0 (List.map (mkV false [Lf.fi IntKind.i64]) S))),
                      AV.slc false (List.take 3 (List.drop 0 (List.map (mkV true Tell_tfs) T))),
                      AV.slc false (List.take 3 (List.drop 0 (List.map (mkV true Mark_tfs) M))),
                      AV.agg
                        [AV.int IntKind.i64 5, AV.int IntKind.i64 2, AV.int IntKind.i64 7,
                          AV.int IntKind.i64
                            (IntKind.i64.wrap (IntKind.i64.wrap (n1 + 1) + IntKind.i64.wrap (Int.tmod d7.snd 4))),
                          AV.str [], AV.int IntKind.i64 1, AV.int IntKind.i64 0, AV.slc true []]]
                    [])
                  fun
                    (d8 :
                      Int ×
                        (Bool × List Int) ×
                          (Bool × List (Int × Int × Int × Int × Int × Int × Int × Int × List UInt8)) ×
                            (Bool × List (Int × Int × Int × Int)) ×
                              Int × Int × Int × Int × List UInt8 × Int × Int × Bool × List (Int × List UInt8)) =>
                  bK (!decide ((judgeG d8).fst = 4))
                    (some
                      (Sum.inr
                        (Ex.ret,
                          {
                            fr :=
                              [(2, AV.bool false), (65, AV.bool true), (64, AV.skp), (63, AV.skp), (62, AV.skp),
                                (61, AV.bool true), (60, AV.bool !decide ((judgeG d8).fst = 4)),
                                (59, AV.int IntKind.i64 (judgeG d8).fst), (9, AV.int IntKind.i64 (judgeG d8).fst),
                                (10, AV.ptr 160 0 0 0),
                                (58,
                                  AV.agg
                                    [AV.int IntKind.i64 (judgeG d8).snd.fst, AV.int IntKind.i64 (judgeG d8).snd.snd.fst,
                                      AV.int IntKind.i64 (judgeG d8).snd.snd.snd.fst,
                                      AV.int IntKind.i64 (judgeG d8).snd.snd.snd.snd.fst,
                                      AV.int IntKind.i64 (judgeG d8).snd.snd.snd.snd.snd.fst,
                                      AV.int IntKind.i64 (judgeG d8).snd.snd.snd.snd.snd.snd.fst,
                                      AV.int IntKind.i64 (judgeG d8).snd.snd.snd.snd.snd.snd.snd.fst,
                                      AV.int IntKind.i64 (judgeG d8).snd.snd.snd.snd.snd.snd.snd.snd.fst,
                                      AV.str (judgeG d8).snd.snd.snd.snd.snd.snd.snd.snd.snd]),
                                (57, AV.int IntKind.i64 (judgeG d8).fst),
                                (46,
                                  AV.tup
                                    [AV.int IntKind.i64 (judgeG d8).fst,
                                      AV.agg
                                        [AV.int IntKind.i64 (judgeG d8).snd.fst,
                                          AV.int IntKind.i64 (judgeG d8).snd.snd.fst,
                                          AV.int IntKind.i64 (judgeG d8).snd.snd.snd.fst,
                                          AV.int IntKind.i64 (judgeG d8).snd.snd.snd.snd.fst,
                                          AV.int IntKind.i64 (judgeG d8).snd.snd.snd.snd.snd.fst,
                                          AV.int IntKind.i64 (judgeG d8).snd.snd.snd.snd.snd.snd.fst,
                                          AV.int IntKind.i64 (judgeG d8).snd.snd.snd.snd.snd.snd.snd.fst,
                                          AV.int IntKind.i64 (judgeG d8).snd.snd.snd.snd.snd.snd.snd.snd.fst,
                                          AV.str (judgeG d8).snd.snd.snd.snd.snd.snd.snd.snd.snd]]),
                                (56,
                                  AV.tup
                                    [AV.int IntKind.i64 (judgeG d8).fst,
                                      AV.agg
                                        [AV.int IntKind.i64 (judgeG d8).snd.fst,
                                          AV.int IntKind.i64 (judgeG d8).snd.snd.fst,
                                          AV.int IntKind.i64 (judgeG d8).snd.snd.snd.fst,
                                          AV.int IntKind.i64 (judgeG d8).snd.snd.snd.snd.fst,
                                          AV.int IntKind.i64 (judgeG d8).snd.snd.snd.snd.snd.fst,
                                          AV.int IntKind.i64 (judgeG d8).snd.snd.snd.snd.snd.snd.fst,
                                          AV.int IntKind.i64 (judgeG d8).snd.snd.snd.snd.snd.snd.snd.fst,
                                          AV.int IntKind.i64 (judgeG d8).snd.snd.snd.snd.snd.snd.snd.snd.fst,
                                          AV.str (judgeG d8).snd.snd.snd.snd.snd.snd.snd.snd.snd]]),
                                (55,
                                  AV.agg
                                    [AV.int IntKind.i64 5, AV.int IntKind.i64 2, AV.int IntKind.i64 7,
                                      AV.int IntKind.i64
                                        (IntKind.i64.wrap
                                          (IntKind.i64.wrap (n1 + 1) + IntKind.i64.wrap (Int.tmod d7.snd 4))),
                                      AV.str [], AV.int IntKind.i64 1, AV.int IntKind.i64 0, AV.slc true []]),
                                (54,
                                  AV.int IntKind.i64
                                    (IntKind.i64.wrap
                                      (IntKind.i64.wrap (n1 + 1) + IntKind.i64.wrap (Int.tmod d7.snd 4)))),
                                (53, AV.ptr 96 0 0 1), (52, AV.int IntKind.i64 1), (51, AV.int IntKind.i64 2),
                                (50, AV.int IntKind.i64 1), (49, AV.sref 288 0 0 3), (48, AV.sref 272 0 0 3),
                                (47, AV.sref 256 0 0 3), (45, AV.ptr 96 0 0 1),
                                (44,
                                  AV.int IntKind.i64
                                    (IntKind.i64.wrap
                                      (IntKind.i64.wrap (n1 + 1) + IntKind.i64.wrap (Int.tmod d7.snd 4)))),
                                (43, AV.int IntKind.i64 (IntKind.i64.wrap (Int.tmod d7.snd 4))),
                                (42, AV.int IntKind.u8 (Int.tmod d7.snd 4)), (41, AV.int IntKind.u8 d7.snd),
                                (40, (AV.agg [AV.int IntKind.u8 d7.fst, AV.int IntKind.u8 d7.snd]).eptr 1),
                                (39, (AV.agg [AV.int IntKind.u8 d7.fst, AV.int IntKind.u8 d7.snd]).eptr 0),
                                (38, AV.int IntKind.i64 i),
                                (37, AV.slc x (List.map (mkV true [Lf.fi IntKind.u8, Lf.fi IntKind.u8]) l)),
                                (36, AV.int IntKind.i64 (IntKind.i64.wrap (n1 + 1))), (35, AV.int IntKind.i64 n1),
                                (34, AV.ptr 96 0 0 1), (33, AV.int IntKind.i64 1), (32, AV.int IntKind.i64 1),
                                (8, AV.int IntKind.i64 1), (31, AV.int IntKind.i64 1),
                                (30, AV.int IntKind.u8 (Int.tmod d0.fst 3)), (29, AV.int IntKind.u8 d0.fst),
                                (28, (AV.agg [AV.int IntKind.u8 d0.fst, AV.int IntKind.u8 d0.snd]).eptr 0),
                                (27, (AV.agg [AV.int IntKind.u8 d0.fst, AV.int IntKind.u8 d0.snd]).eptr 0),
                                (26, AV.int IntKind.i64 i),
                                (25, AV.slc x (List.map (mkV true [Lf.fi IntKind.u8, Lf.fi IntKind.u8]) l)),
                                (22, AV.bool true),
                                (21,
                                  AV.int IntKind.i64
                                    (↑(List.map (mkV true [Lf.fi IntKind.u8, Lf.fi IntKind.u8]) l).length : Int)),
                                (20, AV.slc x (List.map (mkV true [Lf.fi IntKind.u8, Lf.fi IntKind.u8]) l)),
                                (19, AV.int IntKind.i64 i),
                                (0, AV.slc x (List.map (mkV true [Lf.fi IntKind.u8, Lf.fi IntKind.u8]) l)),
                                (3, AV.sref 256 0 0 3), (4, AV.sref 272 0 0 3), (5, AV.sref 288 0 0 3),
                                (6, AV.ptr 96 0 0 0), (7, AV.int IntKind.i64 i)],
                            bs :=
                              [(160,
                                  { v := 0, k := BK.box, fz := false, sz := 0,
                                    es :=
                                      [AV.int IntKind.i64 (judgeG d8).snd.fst,
                                        AV.int IntKind.i64 (judgeG d8).snd.snd.fst,
                                        AV.int IntKind.i64 (judgeG d8).snd.snd.snd.fst,
                                        AV.int IntKind.i64 (judgeG d8).snd.snd.snd.snd.fst,
                                        AV.int IntKind.i64 (judgeG d8).snd.snd.snd.snd.snd.fst,
                                        AV.int IntKind.i64 (judgeG d8).snd.snd.snd.snd.snd.snd.fst,
                                        AV.int IntKind.i64 (judgeG d8).snd.snd.snd.snd.snd.snd.snd.fst,
                                        AV.int IntKind.i64 (judgeG d8).snd.snd.snd.snd.snd.snd.snd.snd.fst,
                                        AV.str (judgeG d8).snd.snd.snd.snd.snd.snd.snd.snd.snd] }),
                                (160,
                                  { v := 0, k := BK.box, fz := false, sz := 0,
                                    es :=
                                      [AV.int IntKind.i64 0, AV.int IntKind.i64 0, AV.int IntKind.i64 0,
                                        AV.int IntKind.i64 0, AV.int IntKind.i64 0, AV.int IntKind.i64 0,
                                        AV.int IntKind.i64 0, AV.int IntKind.i64 0, AV.str []] }),
                                (96,
                                  { v := 0, k := BK.box, fz := false, sz := 0,
                                    es :=
                                      [AV.int IntKind.i64 n0,
                                        AV.int IntKind.i64
                                          (IntKind.i64.wrap
                                            (IntKind.i64.wrap (n1 + 1) + IntKind.i64.wrap (Int.tmod d7.snd 4))),
                                        AV.int IntKind.i64 n2] }),
                                (96,
                                  { v := 0, k := BK.box, fz := false, sz := 0,
                                    es := [AV.int IntKind.i64 n0, AV.int IntKind.i64 n1, AV.int IntKind.i64 n2] }),
                                (256,
                                  { v := 0, k := BK.row, fz := false, sz := 1,
                                    es := List.map (mkV false [Lf.fi IntKind.i64]) S }),
                                (272,
                                  { v := 0, k := BK.row, fz := false, sz := 9, es := List.map (mkV true Tell_tfs) T }),
                                (288,
                                  { v := 0, k := BK.row, fz := false, sz := 4, es := List.map (mkV true Mark_tfs) M })],
                            df := [] })))
                    (bK
                      (!(decide ((judgeG d8).snd.fst = 0) &&
                          (decide ((judgeG d8).snd.snd.fst = 0) &&
                            (decide ((judgeG d8).snd.snd.snd.fst = 0) &&
                              (decide ((judgeG d8).snd.snd.snd.snd.fst = 0) &&
                                (decide ((judgeG d8).snd.snd.snd.snd.snd.fst = 0) &&
                                  (decide ((judgeG d8).snd.snd.snd.snd.snd.snd.fst = 0) &&
                                    (decide ((judgeG d8).snd.snd.snd.snd.snd.snd.snd.fst = 0) &&
                                      (decide ((judgeG d8).snd.snd.snd.snd.snd.snd.snd.snd.fst = 0) &&
                                        (decide ((judgeG d8).snd.snd.snd.snd.snd.snd.snd.snd.snd = []) && true))))))))))
                      (some
                        (Sum.inr
                          (Ex.ret,
                            {
                              fr :=
                                [(2, AV.bool false), (65, AV.bool true),
                                  (64,
                                    AV.bool
                                      !(decide ((judgeG d8).snd.fst = 0) &&
                                          (decide ((judgeG d8).snd.snd.fst = 0) &&
                                            (decide ((judgeG d8).snd.snd.snd.fst = 0) &&
                                              (decide ((judgeG d8).snd.snd.snd.snd.fst = 0) &&
                                                (decide ((judgeG d8).snd.snd.snd.snd.snd.fst = 0) &&
                                                  (decide ((judgeG d8).snd.snd.snd.snd.snd.snd.fst = 0) &&
                                                    (decide ((judgeG d8).snd.snd.snd.snd.snd.snd.snd.fst = 0) &&
                                                      (decide ((judgeG d8).snd.snd.snd.snd.snd.snd.snd.snd.fst = 0) &&
                                                        (decide
                                                            ((judgeG d8).snd.snd.snd.snd.snd.snd.snd.snd.snd = []) &&
                                                          true)))))))))),
                                  (63,
                                    AV.agg
                                      [AV.int IntKind.i64 0, AV.int IntKind.i64 0, AV.int IntKind.i64 0,
                                        AV.int IntKind.i64 0, AV.int IntKind.i64 0, AV.int IntKind.i64 0,
                                        AV.int IntKind.i64 0, AV.int IntKind.i64 0, AV.str []]),
                                  (62,
                                    AV.agg
                                      [AV.int IntKind.i64 (judgeG d8).snd.fst,
                                        AV.int IntKind.i64 (judgeG d8).snd.snd.fst,
                                        AV.int IntKind.i64 (judgeG d8).snd.snd.snd.fst,
                                        AV.int IntKind.i64 (judgeG d8).snd.snd.snd.snd.fst,
                                        AV.int IntKind.i64 (judgeG d8).snd.snd.snd.snd.snd.fst,
                                        AV.int IntKind.i64 (judgeG d8).snd.snd.snd.snd.snd.snd.fst,
                                        AV.int IntKind.i64 (judgeG d8).snd.snd.snd.snd.snd.snd.snd.fst,
                                        AV.int IntKind.i64 (judgeG d8).snd.snd.snd.snd.snd.snd.snd.snd.fst,
                                        AV.str (judgeG d8).snd.snd.snd.snd.snd.snd.snd.snd.snd]),
                                  (61, AV.bool false), (60, AV.bool !decide ((judgeG d8).fst = 4)),
                                  (59, AV.int IntKind.i64 (judgeG d8).fst), (9, AV.int IntKind.i64 (judgeG d8).fst),
                                  (10, AV.ptr 160 0 0 0),
                                  (58,
                                    AV.agg
                                      [AV.int IntKind.i64 (judgeG d8).snd.fst,
                                        AV.int IntKind.i64 (judgeG d8).snd.snd.fst,
                                        AV.int IntKind.i64 (judgeG d8).snd.snd.snd.fst,
                                        AV.int IntKind.i64 (judgeG d8).snd.snd.snd.snd.fst,
                                        AV.int IntKind.i64 (judgeG d8).snd.snd.snd.snd.snd.fst,
                                        AV.int IntKind.i64 (judgeG d8).snd.snd.snd.snd.snd.snd.fst,
                                        AV.int IntKind.i64 (judgeG d8).snd.snd.snd.snd.snd.snd.snd.fst,
                                        AV.int IntKind.i64 (judgeG d8).snd.snd.snd.snd.snd.snd.snd.snd.fst,
                                        AV.str (judgeG d8).snd.snd.snd.snd.snd.snd.snd.snd.snd]),
                                  (57, AV.int IntKind.i64 (judgeG d8).fst),
                                  (46,
                                    AV.tup
                                      [AV.int IntKind.i64 (judgeG d8).fst,
                                        AV.agg
                                          [AV.int IntKind.i64 (judgeG d8).snd.fst,
                                            AV.int IntKind.i64 (judgeG d8).snd.snd.fst,
                                            AV.int IntKind.i64 (judgeG d8).snd.snd.snd.fst,
                                            AV.int IntKind.i64 (judgeG d8).snd.snd.snd.snd.fst,
                                            AV.int IntKind.i64 (judgeG d8).snd.snd.snd.snd.snd.fst,
                                            AV.int IntKind.i64 (judgeG d8).snd.snd.snd.snd.snd.snd.fst,
                                            AV.int IntKind.i64 (judgeG d8).snd.snd.snd.snd.snd.snd.snd.fst,
                                            AV.int IntKind.i64 (judgeG d8).snd.snd.snd.snd.snd.snd.snd.snd.fst,
                                            AV.str (judgeG d8).snd.snd.snd.snd.snd.snd.snd.snd.snd]]),
                                  (56,
                                    AV.tup
                                      [AV.int IntKind.i64 (judgeG d8).fst,
                                        AV.agg
                                          [AV.int IntKind.i64 (judgeG d8).snd.fst,
                                            AV.int IntKind.i64 (judgeG d8).snd.snd.fst,
                                            AV.int IntKind.i64 (judgeG d8).snd.snd.snd.fst,
                                            AV.int IntKind.i64 (judgeG d8).snd.snd.snd.snd.fst,
                                            AV.int IntKind.i64 (judgeG d8).snd.snd.snd.snd.snd.fst,
                                            AV.int IntKind.i64 (judgeG d8).snd.snd.snd.snd.snd.snd.fst,
                                            AV.int IntKind.i64 (judgeG d8).snd.snd.snd.snd.snd.snd.snd.fst,
                                            AV.int IntKind.i64 (judgeG d8).snd.snd.snd.snd.snd.snd.snd.snd.fst,
                                            AV.str (judgeG d8).snd.snd.snd.snd.snd.snd.snd.snd.snd]]),
                                  (55,
                                    AV.agg
                                      [AV.int IntKind.i64 5, AV.int IntKind.i64 2, AV.int IntKind.i64 7,
                                        AV.int IntKind.i64
                                          (IntKind.i64.wrap
                                            (IntKind.i64.wrap (n1 + 1) + IntKind.i64.wrap (Int.tmod d7.snd 4))),
                                        AV.str [], AV.int IntKind.i64 1, AV.int IntKind.i64 0, AV.slc true []]),
                                  (54,
                                    AV.int IntKind.i64
                                      (IntKind.i64.wrap
                                        (IntKind.i64.wrap (n1 + 1) + IntKind.i64.wrap (Int.tmod d7.snd 4)))),
                                  (53, AV.ptr 96 0 0 1), (52, AV.int IntKind.i64 1), (51, AV.int IntKind.i64 2),
                                  (50, AV.int IntKind.i64 1), (49, AV.sref 288 0 0 3), (48, AV.sref 272 0 0 3),
                                  (47, AV.sref 256 0 0 3), (45, AV.ptr 96 0 0 1),
                                  (44,
                                    AV.int IntKind.i64
                                      (IntKind.i64.wrap
                                        (IntKind.i64.wrap (n1 + 1) + IntKind.i64.wrap (Int.tmod d7.snd 4)))),
                                  (43, AV.int IntKind.i64 (IntKind.i64.wrap (Int.tmod d7.snd 4))),
                                  (42, AV.int IntKind.u8 (Int.tmod d7.snd 4)), (41, AV.int IntKind.u8 d7.snd),
                                  (40, (AV.agg [AV.int IntKind.u8 d7.fst, AV.int IntKind.u8 d7.snd]).eptr 1),
                                  (39, (AV.agg [AV.int IntKind.u8 d7.fst, AV.int IntKind.u8 d7.snd]).eptr 0),
                                  (38, AV.int IntKind.i64 i),
                                  (37, AV.slc x (List.map (mkV true [Lf.fi IntKind.u8, Lf.fi IntKind.u8]) l)),
                                  (36, AV.int IntKind.i64 (IntKind.i64.wrap (n1 + 1))), (35, AV.int IntKind.i64 n1),
                                  (34, AV.ptr 96 0 0 1), (33, AV.int IntKind.i64 1), (32, AV.int IntKind.i64 1),
                                  (8, AV.int IntKind.i64 1), (31, AV.int IntKind.i64 1),
                                  (30, AV.int IntKind.u8 (Int.tmod d0.fst 3)), (29, AV.int IntKind.u8 d0.fst),
                                  (28, (AV.agg [AV.int IntKind.u8 d0.fst, AV.int IntKind.u8 d0.snd]).eptr 0),
                                  (27, (AV.agg [AV.int IntKind.u8 d0.fst, AV.int IntKind.u8 d0.snd]).eptr 0),
                                  (26, AV.int IntKind.i64 i),
                                  (25, AV.slc x (List.map (mkV true [Lf.fi IntKind.u8, Lf.fi IntKind.u8]) l)),
                                  (22, AV.bool true),
                                  (21,
                                    AV.int IntKind.i64
                                      (↑(List.map (mkV true [Lf.fi IntKind.u8, Lf.fi IntKind.u8]) l).length : Int)),
                                  (20, AV.slc x (List.map (mkV true [Lf.fi IntKind.u8, Lf.fi IntKind.u8]) l)),
                                  (19, AV.int IntKind.i64 i),
                                  (0, AV.slc x (List.map (mkV true [Lf.fi IntKind.u8, Lf.fi IntKind.u8]) l)),
                                  (3, AV.sref 256 0 0 3), (4, AV.sref 272 0 0 3), (5, AV.sref 288 0 0 3),
                                  (6, AV.ptr 96 0 0 0), (7, AV.int IntKind.i64 i)],
                              bs :=
                                [(160,
                                    { v := 0, k := BK.box, fz := false, sz := 0,
                                      es :=
                                        [AV.int IntKind.i64 (judgeG d8).snd.fst,
                                          AV.int IntKind.i64 (judgeG d8).snd.snd.fst,
                                          AV.int IntKind.i64 (judgeG d8).snd.snd.snd.fst,
                                          AV.int IntKind.i64 (judgeG d8).snd.snd.snd.snd.fst,
                                          AV.int IntKind.i64 (judgeG d8).snd.snd.snd.snd.snd.fst,
                                          AV.int IntKind.i64 (judgeG d8).snd.snd.snd.snd.snd.snd.fst,
                                          AV.int IntKind.i64 (judgeG d8).snd.snd.snd.snd.snd.snd.snd.fst,
                                          AV.int IntKind.i64 (judgeG d8).snd.snd.snd.snd.snd.snd.snd.snd.fst,
                                          AV.str (judgeG d8).snd.snd.snd.snd.snd.snd.snd.snd.snd] }),
                                  (160,
                                    { v := 0, k := BK.box, fz := false, sz := 0,
                                      es :=
                                        [AV.int IntKind.i64 0, AV.int IntKind.i64 0, AV.int IntKind.i64 0,
                                          AV.int IntKind.i64 0, AV.int IntKind.i64 0, AV.int IntKind.i64 0,
                                          AV.int IntKind.i64 0, AV.int IntKind.i64 0, AV.str []] }),
                                  (96,
                                    { v := 0, k := BK.box, fz := false, sz := 0,
                                      es :=
                                        [AV.int IntKind.i64 n0,
                                          AV.int IntKind.i64
                                            (IntKind.i64.wrap
                                              (IntKind.i64.wrap (n1 + 1) + IntKind.i64.wrap (Int.tmod d7.snd 4))),
                                          AV.int IntKind.i64 n2] }),
                                  (96,
                                    { v := 0, k := BK.box, fz := false, sz := 0,
                                      es := [AV.int IntKind.i64 n0, AV.int IntKind.i64 n1, AV.int IntKind.i64 n2] }),
                                  (256,
                                    { v := 0, k := BK.row, fz := false, sz := 1,
                                      es := List.map (mkV false [Lf.fi IntKind.i64]) S }),
                                  (272,
                                    { v := 0, k := BK.row, fz := false, sz := 9,
                                      es := List.map (mkV true Tell_tfs) T }),
                                  (288,
                                    { v := 0, k := BK.row, fz := false, sz := 4,
                                      es := List.map (mkV true Mark_tfs) M })],
                              df := [] })))
                      (oK
                        (stRow (List.map (mkV false [Lf.fi IntKind.i64]) S) 1 0
                          [AV.int IntKind.i64
                              (IntKind.i64.wrap (IntKind.i64.wrap (n1 + 1) + IntKind.i64.wrap (Int.tmod d7.snd 4)))])
                        fun (d9 : List AV) =>
                        oK
                          (stRow (List.map (mkV true Tell_tfs) T) 1 0
                            [AV.int IntKind.i64 1, AV.int IntKind.i64 2, AV.int IntKind.i64 7,
                              AV.int IntKind.i64
                                (IntKind.i64.wrap (IntKind.i64.wrap (n1 + 1) + IntKind.i64.wrap (Int.tmod d7.snd 4))),
                              AV.int IntKind.i64 0, AV.int IntKind.i64 0, AV.int IntKind.i64 0, AV.int IntKind.i64 0,
                              AV.str []])
                          fun (d10 : List AV) =>
                          oK
                            (elemAt true [Lf.fi IntKind.u8, Lf.fi IntKind.u8]
                              (List.map (mkV true [Lf.fi IntKind.u8, Lf.fi IntKind.u8]) l) i)
                            fun (d11 : Int × Int) =>
                            bK (decide (Int.tmod d11.snd 2 = 0))
                              (oK
                                (stRow (List.map (mkV true Mark_tfs) M) 1 0
                                  [AV.int IntKind.i64
                                      (IntKind.i64.wrap
                                        (IntKind.i64.wrap (n1 + 1) + IntKind.i64.wrap (Int.tmod d7.snd 4))),
                                    AV.int IntKind.i64 0, AV.int IntKind.i64 1, AV.int IntKind.i64 0])
                                fun (d12 : List AV) =>
                                some
                                  (Sum.inl
                                    {
                                      fr :=
                                        [(0, AV.slc x (List.map (mkV true [Lf.fi IntKind.u8, Lf.fi IntKind.u8]) l)),
                                          (3, AV.sref 256 0 0 3), (4, AV.sref 272 0 0 3), (5, AV.sref 288 0 0 3),
                                          (6, AV.ptr 96 0 0 0), (7, AV.int IntKind.i64 (IntKind.i64.wrap (i + 1)))],
                                      bs :=
                                        [(96,
                                            { v := 0, k := BK.box, fz := false, sz := 0,
                                              es :=
                                                [AV.int IntKind.i64 n0,
                                                  AV.int IntKind.i64
                                                    (IntKind.i64.wrap
                                                      (IntKind.i64.wrap (n1 + 1) +
                                                        IntKind.i64.wrap (Int.tmod d7.snd 4))),
                                                  AV.int IntKind.i64 n2] }),
                                          (256, { v := 0, k := BK.row, fz := false, sz := 1, es := d9 }),
                                          (272, { v := 0, k := BK.row, fz := false, sz := 9, es := d10 }),
                                          (288, { v := 0, k := BK.row, fz := false, sz := 4, es := d12 })],
                                      df := [] }))
                              (some
                                (Sum.inl
                                  {
                                    fr :=
                                      [(0, AV.slc x (List.map (mkV true [Lf.fi IntKind.u8, Lf.fi IntKind.u8]) l)),
                                        (3, AV.sref 256 0 0 3), (4, AV.sref 272 0 0 3), (5, AV.sref 288 0 0 3),
                                        (6, AV.ptr 96 0 0 0), (7, AV.int IntKind.i64 (IntKind.i64.wrap (i + 1)))],
                                    bs :=
                                      [(96,
                                          { v := 0, k := BK.box, fz := false, sz := 0,
                                            es :=
                                              [AV.int IntKind.i64 n0,
                                                AV.int IntKind.i64
                                                  (IntKind.i64.wrap
                                                    (IntKind.i64.wrap (n1 + 1) + IntKind.i64.wrap (Int.tmod d7.snd 4))),
                                                AV.int IntKind.i64 n2] }),
                                        (256, { v := 0, k := BK.row, fz := false, sz := 1, es := d9 }),
                                        (272, { v := 0, k := BK.row, fz := false, sz := 9, es := d10 }),
                                        (288,
                                          { v := 0, k := BK.row, fz := false, sz := 4,
                                            es := List.map (mkV true Mark_tfs) M })],
                                    df := [] })))))
                none)
              none)
            none)
        (bK (decide (IntKind.i64.wrap (Int.tmod d0.fst 3) = 2))
          (oK
            (elemAt true [Lf.fi IntKind.u8, Lf.fi IntKind.u8]
              (List.map (mkV true [Lf.fi IntKind.u8, Lf.fi IntKind.u8]) l) i)
            fun (d13 : Int × Int) =>
            bK (decide (3 ≤ (List.map (mkV false [Lf.fi IntKind.i64]) S).length))
              (bK (decide (3 ≤ (List.map (mkV true Tell_tfs) T).length))
                (bK (decide (3 ≤ (List.map (mkV true Mark_tfs) M).length))
                  (oK
                    (judgeS.dec
                      [AV.int IntKind.i64 7,
                        AV.slc false (List.take 3 (List.drop 0 (List.map (mkV false [Lf.fi IntKind.i64]) S))),
                        AV.slc false (List.take 3 (List.drop 0 (List.map (mkV true Tell_tfs) T))),
                        AV.slc false (List.take 3 (List.drop 0 (List.map (mkV true Mark_tfs) M))),
                        AV.agg
                          [AV.int IntKind.i64 5, AV.int IntKind.i64 3, AV.int IntKind.i64 7,
                            AV.int IntKind.i64
                              (IntKind.i64.wrap (IntKind.i64.wrap (n2 + 1) + IntKind.i64.wrap (Int.tmod d13.snd 4))),
                            AV.str [], AV.int IntKind.i64 1, AV.int IntKind.i64 0, AV.slc true []]]
                      [])
                    fun
                      (d14 :
                        Int ×
                          (Bool × List Int) ×
                            (Bool × List (Int × Int × Int × Int × Int × Int × Int × Int × List UInt8)) ×
                              (Bool × List (Int × Int × Int × Int)) ×
                                Int × Int × Int × Int × List UInt8 × Int × Int × Bool × List (Int × List UInt8)) =>
                    bK (!decide ((judgeG d14).fst = 4))
                      (some
                        (Sum.inr
                          (Ex.ret,
                            {
                              fr :=
                                [(2, AV.bool false), (65, AV.bool true), (64, AV.skp), (63, AV.skp), (62, AV.skp),
                                  (61, AV.bool true), (60, AV.bool !decide ((judgeG d14).fst = 4)),
                                  (59, AV.int IntKind.i64 (judgeG d14).fst), (9, AV.int IntKind.i64 (judgeG d14).fst),
                                  (10, AV.ptr 160 0 0 0),
                                  (58,
                                    AV.agg
                                      [AV.int IntKind.i64 (judgeG d14).snd.fst,
                                        AV.int IntKind.i64 (judgeG d14).snd.snd.fst,
                                        AV.int IntKind.i64 (judgeG d14).snd.snd.snd.fst,
                                        AV.int IntKind.i64 (judgeG d14).snd.snd.snd.snd.fst,
                                        AV.int IntKind.i64 (judgeG d14).snd.snd.snd.snd.snd.fst,
                                        AV.int IntKind.i64 (judgeG d14).snd.snd.snd.snd.snd.snd.fst,
                                        AV.int IntKind.i64 (judgeG d14).snd.snd.snd.snd.snd.snd.snd.fst,
                                        AV.int IntKind.i64 (judgeG d14).snd.snd.snd.snd.snd.snd.snd.snd.fst,
                                        AV.str (judgeG d14).snd.snd.snd.snd.snd.snd.snd.snd.snd]),
                                  (57, AV.int IntKind.i64 (judgeG d14).fst),
                                  (46,
                                    AV.tup
                                      [AV.int IntKind.i64 (judgeG d14).fst,
                                        AV.agg
                                          [AV.int IntKind.i64 (judgeG d14).snd.fst,
                                            AV.int IntKind.i64 (judgeG d14).snd.snd.fst,
                                            AV.int IntKind.i64 (judgeG d14).snd.snd.snd.fst,
                                            AV.int IntKind.i64 (judgeG d14).snd.snd.snd.snd.fst,
                                            AV.int IntKind.i64 (judgeG d14).snd.snd.snd.snd.snd.fst,
                                            AV.int IntKind.i64 (judgeG d14).snd.snd.snd.snd.snd.snd.fst,
                                            AV.int IntKind.i64 (judgeG d14).snd.snd.snd.snd.snd.snd.snd.fst,
                                            AV.int IntKind.i64 (judgeG d14).snd.snd.snd.snd.snd.snd.snd.snd.fst,
                                            AV.str (judgeG d14).snd.snd.snd.snd.snd.snd.snd.snd.snd]]),
                                  (56,
                                    AV.tup
                                      [AV.int IntKind.i64 (judgeG d14).fst,
                                        AV.agg
                                          [AV.int IntKind.i64 (judgeG d14).snd.fst,
                                            AV.int IntKind.i64 (judgeG d14).snd.snd.fst,
                                            AV.int IntKind.i64 (judgeG d14).snd.snd.snd.fst,
                                            AV.int IntKind.i64 (judgeG d14).snd.snd.snd.snd.fst,
                                            AV.int IntKind.i64 (judgeG d14).snd.snd.snd.snd.snd.fst,
                                            AV.int IntKind.i64 (judgeG d14).snd.snd.snd.snd.snd.snd.fst,
                                            AV.int IntKind.i64 (judgeG d14).snd.snd.snd.snd.snd.snd.snd.fst,
                                            AV.int IntKind.i64 (judgeG d14).snd.snd.snd.snd.snd.snd.snd.snd.fst,
                                            AV.str (judgeG d14).snd.snd.snd.snd.snd.snd.snd.snd.snd]]),
                                  (55,
                                    AV.agg
                                      [AV.int IntKind.i64 5, AV.int IntKind.i64 3, AV.int IntKind.i64 7,
                                        AV.int IntKind.i64
                                          (IntKind.i64.wrap
                                            (IntKind.i64.wrap (n2 + 1) + IntKind.i64.wrap (Int.tmod d13.snd 4))),
                                        AV.str [], AV.int IntKind.i64 1, AV.int IntKind.i64 0, AV.slc true []]),
                                  (54,
                                    AV.int IntKind.i64
                                      (IntKind.i64.wrap
                                        (IntKind.i64.wrap (n2 + 1) + IntKind.i64.wrap (Int.tmod d13.snd 4)))),
                                  (53, AV.ptr 96 0 0 2), (52, AV.int IntKind.i64 2), (51, AV.int IntKind.i64 3),
                                  (50, AV.int IntKind.i64 2), (49, AV.sref 288 0 0 3), (48, AV.sref 272 0 0 3),
                                  (47, AV.sref 256 0 0 3), (45, AV.ptr 96 0 0 2),
                                  (44,
                                    AV.int IntKind.i64
                                      (IntKind.i64.wrap
                                        (IntKind.i64.wrap (n2 + 1) + IntKind.i64.wrap (Int.tmod d13.snd 4)))),
                                  (43, AV.int IntKind.i64 (IntKind.i64.wrap (Int.tmod d13.snd 4))),
                                  (42, AV.int IntKind.u8 (Int.tmod d13.snd 4)), (41, AV.int IntKind.u8 d13.snd),
                                  (40, (AV.agg [AV.int IntKind.u8 d13.fst, AV.int IntKind.u8 d13.snd]).eptr 1),
                                  (39, (AV.agg [AV.int IntKind.u8 d13.fst, AV.int IntKind.u8 d13.snd]).eptr 0),
                                  (38, AV.int IntKind.i64 i),
                                  (37, AV.slc x (List.map (mkV true [Lf.fi IntKind.u8, Lf.fi IntKind.u8]) l)),
                                  (36, AV.int IntKind.i64 (IntKind.i64.wrap (n2 + 1))), (35, AV.int IntKind.i64 n2),
                                  (34, AV.ptr 96 0 0 2), (33, AV.int IntKind.i64 2), (32, AV.int IntKind.i64 2),
                                  (8, AV.int IntKind.i64 2), (31, AV.int IntKind.i64 2),
                                  (30, AV.int IntKind.u8 (Int.tmod d0.fst 3)), (29, AV.int IntKind.u8 d0.fst),
                                  (28, (AV.agg [AV.int IntKind.u8 d0.fst, AV.int IntKind.u8 d0.snd]).eptr 0),
                                  (27, (AV.agg [AV.int IntKind.u8 d0.fst, AV.int IntKind.u8 d0.snd]).eptr 0),
                                  (26, AV.int IntKind.i64 i),
                                  (25, AV.slc x (List.map (mkV true [Lf.fi IntKind.u8, Lf.fi IntKind.u8]) l)),
                                  (22, AV.bool true),
                                  (21,
                                    AV.int IntKind.i64
                                      (↑(List.map (mkV true [Lf.fi IntKind.u8, Lf.fi IntKind.u8]) l).length : Int)),
                                  (20, AV.slc x (List.map (mkV true [Lf.fi IntKind.u8, Lf.fi IntKind.u8]) l)),
                                  (19, AV.int IntKind.i64 i),
                                  (0, AV.slc x (List.map (mkV true [Lf.fi IntKind.u8, Lf.fi IntKind.u8]) l)),
                                  (3, AV.sref 256 0 0 3), (4, AV.sref 272 0 0 3), (5, AV.sref 288 0 0 3),
                                  (6, AV.ptr 96 0 0 0), (7, AV.int IntKind.i64 i)],
                              bs :=
                                [(160,
                                    { v := 0, k := BK.box, fz := false, sz := 0,
                                      es :=
                                        [AV.int IntKind.i64 (judgeG d14).snd.fst,
                                          AV.int IntKind.i64 (judgeG d14).snd.snd.fst,
                                          AV.int IntKind.i64 (judgeG d14).snd.snd.snd.fst,
                                          AV.int IntKind.i64 (judgeG d14).snd.snd.snd.snd.fst,
                                          AV.int IntKind.i64 (judgeG d14).snd.snd.snd.snd.snd.fst,
                                          AV.int IntKind.i64 (judgeG d14).snd.snd.snd.snd.snd.snd.fst,
                                          AV.int IntKind.i64 (judgeG d14).snd.snd.snd.snd.snd.snd.snd.fst,
                                          AV.int IntKind.i64 (judgeG d14).snd.snd.snd.snd.snd.snd.snd.snd.fst,
                                          AV.str (judgeG d14).snd.snd.snd.snd.snd.snd.snd.snd.snd] }),
                                  (160,
                                    { v := 0, k := BK.box, fz := false, sz := 0,
                                      es :=
                                        [AV.int IntKind.i64 0, AV.int IntKind.i64 0, AV.int IntKind.i64 0,
                                          AV.int IntKind.i64 0, AV.int IntKind.i64 0, AV.int IntKind.i64 0,
                                          AV.int IntKind.i64 0, AV.int IntKind.i64 0, AV.str []] }),
                                  (96,
                                    { v := 0, k := BK.box, fz := false, sz := 0,
                                      es :=
                                        [AV.int IntKind.i64 n0, AV.int IntKind.i64 n1,
                                          AV.int IntKind.i64
                                            (IntKind.i64.wrap
                                              (IntKind.i64.wrap (n2 + 1) + IntKind.i64.wrap (Int.tmod d13.snd 4)))] }),
                                  (96,
                                    { v := 0, k := BK.box, fz := false, sz := 0,
                                      es := [AV.int IntKind.i64 n0, AV.int IntKind.i64 n1, AV.int IntKind.i64 n2] }),
                                  (256,
                                    { v := 0, k := BK.row, fz := false, sz := 1,
                                      es := List.map (mkV false [Lf.fi IntKind.i64]) S }),
                                  (272,
                                    { v := 0, k := BK.row, fz := false, sz := 9,
                                      es := List.map (mkV true Tell_tfs) T }),
                                  (288,
                                    { v := 0, k := BK.row, fz := false, sz := 4,
                                      es := List.map (mkV true Mark_tfs) M })],
                              df := [] })))
                      (bK
                        (!(decide ((judgeG d14).snd.fst = 0) &&
                            (decide ((judgeG d14).snd.snd.fst = 0) &&
                              (decide ((judgeG d14).snd.snd.snd.fst = 0) &&
                                (decide ((judgeG d14).snd.snd.snd.snd.fst = 0) &&
                                  (decide ((judgeG d14).snd.snd.snd.snd.snd.fst = 0) &&
                                    (decide ((judgeG d14).snd.snd.snd.snd.snd.snd.fst = 0) &&
                                      (decide ((judgeG d14).snd.snd.snd.snd.snd.snd.snd.fst = 0) &&
                                        (decide ((judgeG d14).snd.snd.snd.snd.snd.snd.snd.snd.fst = 0) &&
                                          (decide ((judgeG d14).snd.snd.snd.snd.snd.snd.snd.snd.snd = []) &&
                                            true))))))))))
                        (some
                          (Sum.inr
                            (Ex.ret,
                              {
                                fr :=
                                  [(2, AV.bool false), (65, AV.bool true),
                                    (64,
                                      AV.bool
                                        !(decide ((judgeG d14).snd.fst = 0) &&
                                            (decide ((judgeG d14).snd.snd.fst = 0) &&
                                              (decide ((judgeG d14).snd.snd.snd.fst = 0) &&
                                                (decide ((judgeG d14).snd.snd.snd.snd.fst = 0) &&
                                                  (decide ((judgeG d14).snd.snd.snd.snd.snd.fst = 0) &&
                                                    (decide ((judgeG d14).snd.snd.snd.snd.snd.snd.fst = 0) &&
                                                      (decide ((judgeG d14).snd.snd.snd.snd.snd.snd.snd.fst = 0) &&
                                                        (decide
                                                            ((judgeG d14).snd.snd.snd.snd.snd.snd.snd.snd.fst = 0) &&
                                                          (decide
                                                              ((judgeG d14).snd.snd.snd.snd.snd.snd.snd.snd.snd = []) &&
                                                            true)))))))))),
                                    (63,
                                      AV.agg
                                        [AV.int IntKind.i64 0, AV.int IntKind.i64 0, AV.int IntKind.i64 0,
                                          AV.int IntKind.i64 0, AV.int IntKind.i64 0, AV.int IntKind.i64 0,
                                          AV.int IntKind.i64 0, AV.int IntKind.i64 0, AV.str []]),
                                    (62,
                                      AV.agg
                                        [AV.int IntKind.i64 (judgeG d14).snd.fst,
                                          AV.int IntKind.i64 (judgeG d14).snd.snd.fst,
                                          AV.int IntKind.i64 (judgeG d14).snd.snd.snd.fst,
                                          AV.int IntKind.i64 (judgeG d14).snd.snd.snd.snd.fst,
                                          AV.int IntKind.i64 (judgeG d14).snd.snd.snd.snd.snd.fst,
                                          AV.int IntKind.i64 (judgeG d14).snd.snd.snd.snd.snd.snd.fst,
                                          AV.int IntKind.i64 (judgeG d14).snd.snd.snd.snd.snd.snd.snd.fst,
                                          AV.int IntKind.i64 (judgeG d14).snd.snd.snd.snd.snd.snd.snd.snd.fst,
                                          AV.str (judgeG d14).snd.snd.snd.snd.snd.snd.snd.snd.snd]),
                                    (61, AV.bool false), (60, AV.bool !decide ((judgeG d14).fst = 4)),
                                    (59, AV.int IntKind.i64 (judgeG d14).fst), (9, AV.int IntKind.i64 (judgeG d14).fst),
                                    (10, AV.ptr 160 0 0 0),
                                    (58,
                                      AV.agg
                                        [AV.int IntKind.i64 (judgeG d14).snd.fst,
                                          AV.int IntKind.i64 (judgeG d14).snd.snd.fst,
                                          AV.int IntKind.i64 (judgeG d14).snd.snd.snd.fst,
                                          AV.int IntKind.i64 (judgeG d14).snd.snd.snd.snd.fst,
                                          AV.int IntKind.i64 (judgeG d14).snd.snd.snd.snd.snd.fst,
                                          AV.int IntKind.i64 (judgeG d14).snd.snd.snd.snd.snd.snd.fst,
                                          AV.int IntKind.i64 (judgeG d14).snd.snd.snd.snd.snd.snd.snd.fst,
                                          AV.int IntKind.i64 (judgeG d14).snd.snd.snd.snd.snd.snd.snd.snd.fst,
                                          AV.str (judgeG d14).snd.snd.snd.snd.snd.snd.snd.snd.snd]),
                                    (57, AV.int IntKind.i64 (judgeG d14).fst),
                                    (46,
                                      AV.tup
                                        [AV.int IntKind.i64 (judgeG d14).fst,
                                          AV.agg
                                            [AV.int IntKind.i64 (judgeG d14).snd.fst,
                                              AV.int IntKind.i64 (judgeG d14).snd.snd.fst,
                                              AV.int IntKind.i64 (judgeG d14).snd.snd.snd.fst,
                                              AV.int IntKind.i64 (judgeG d14).snd.snd.snd.snd.fst,
                                              AV.int IntKind.i64 (judgeG d14).snd.snd.snd.snd.snd.fst,
                                              AV.int IntKind.i64 (judgeG d14).snd.snd.snd.snd.snd.snd.fst,
                                              AV.int IntKind.i64 (judgeG d14).snd.snd.snd.snd.snd.snd.snd.fst,
                                              AV.int IntKind.i64 (judgeG d14).snd.snd.snd.snd.snd.snd.snd.snd.fst,
                                              AV.str (judgeG d14).snd.snd.snd.snd.snd.snd.snd.snd.snd]]),
                                    (56,
                                      AV.tup
                                        [AV.int IntKind.i64 (judgeG d14).fst,
                                          AV.agg
                                            [AV.int IntKind.i64 (judgeG d14).snd.fst,
                                              AV.int IntKind.i64 (judgeG d14).snd.snd.fst,
                                              AV.int IntKind.i64 (judgeG d14).snd.snd.snd.fst,
                                              AV.int IntKind.i64 (judgeG d14).snd.snd.snd.snd.fst,
                                              AV.int IntKind.i64 (judgeG d14).snd.snd.snd.snd.snd.fst,
                                              AV.int IntKind.i64 (judgeG d14).snd.snd.snd.snd.snd.snd.fst,
                                              AV.int IntKind.i64 (judgeG d14).snd.snd.snd.snd.snd.snd.snd.fst,
                                              AV.int IntKind.i64 (judgeG d14).snd.snd.snd.snd.snd.snd.snd.snd.fst,
                                              AV.str (judgeG d14).snd.snd.snd.snd.snd.snd.snd.snd.snd]]),
                                    (55,
                                      AV.agg
                                        [AV.int IntKind.i64 5, AV.int IntKind.i64 3, AV.int IntKind.i64 7,
                                          AV.int IntKind.i64
                                            (IntKind.i64.wrap
                                              (IntKind.i64.wrap (n2 + 1) + IntKind.i64.wrap (Int.tmod d13.snd 4))),
                                          AV.str [], AV.int IntKind.i64 1, AV.int IntKind.i64 0, AV.slc true []]),
                                    (54,
                                      AV.int IntKind.i64
                                        (IntKind.i64.wrap
                                          (IntKind.i64.wrap (n2 + 1) + IntKind.i64.wrap (Int.tmod d13.snd 4)))),
                                    (53, AV.ptr 96 0 0 2), (52, AV.int IntKind.i64 2), (51, AV.int IntKind.i64 3),
                                    (50, AV.int IntKind.i64 2), (49, AV.sref 288 0 0 3), (48, AV.sref 272 0 0 3),
                                    (47, AV.sref 256 0 0 3), (45, AV.ptr 96 0 0 2),
                                    (44,
                                      AV.int IntKind.i64
                                        (IntKind.i64.wrap
                                          (IntKind.i64.wrap (n2 + 1) + IntKind.i64.wrap (Int.tmod d13.snd 4)))),
                                    (43, AV.int IntKind.i64 (IntKind.i64.wrap (Int.tmod d13.snd 4))),
                                    (42, AV.int IntKind.u8 (Int.tmod d13.snd 4)), (41, AV.int IntKind.u8 d13.snd),
                                    (40, (AV.agg [AV.int IntKind.u8 d13.fst, AV.int IntKind.u8 d13.snd]).eptr 1),
                                    (39, (AV.agg [AV.int IntKind.u8 d13.fst, AV.int IntKind.u8 d13.snd]).eptr 0),
                                    (38, AV.int IntKind.i64 i),
                                    (37, AV.slc x (List.map (mkV true [Lf.fi IntKind.u8, Lf.fi IntKind.u8]) l)),
                                    (36, AV.int IntKind.i64 (IntKind.i64.wrap (n2 + 1))), (35, AV.int IntKind.i64 n2),
                                    (34, AV.ptr 96 0 0 2), (33, AV.int IntKind.i64 2), (32, AV.int IntKind.i64 2),
                                    (8, AV.int IntKind.i64 2), (31, AV.int IntKind.i64 2),
                                    (30, AV.int IntKind.u8 (Int.tmod d0.fst 3)), (29, AV.int IntKind.u8 d0.fst),
                                    (28, (AV.agg [AV.int IntKind.u8 d0.fst, AV.int IntKind.u8 d0.snd]).eptr 0),
                                    (27, (AV.agg [AV.int IntKind.u8 d0.fst, AV.int IntKind.u8 d0.snd]).eptr 0),
                                    (26, AV.int IntKind.i64 i),
                                    (25, AV.slc x (List.map (mkV true [Lf.fi IntKind.u8, Lf.fi IntKind.u8]) l)),
                                    (22, AV.bool true),
                                    (21,
                                      AV.int IntKind.i64
                                        (↑(List.map (mkV true [Lf.fi IntKind.u8, Lf.fi IntKind.u8]) l).length : Int)),
                                    (20, AV.slc x (List.map (mkV true [Lf.fi IntKind.u8, Lf.fi IntKind.u8]) l)),
                                    (19, AV.int IntKind.i64 i),
                                    (0, AV.slc x (List.map (mkV true [Lf.fi IntKind.u8, Lf.fi IntKind.u8]) l)),
                                    (3, AV.sref 256 0 0 3), (4, AV.sref 272 0 0 3), (5, AV.sref 288 0 0 3),
                                    (6, AV.ptr 96 0 0 0), (7, AV.int IntKind.i64 i)],
                                bs :=
                                  [(160,
                                      { v := 0, k := BK.box, fz := false, sz := 0,
                                        es :=
                                          [AV.int IntKind.i64 (judgeG d14).snd.fst,
                                            AV.int IntKind.i64 (judgeG d14).snd.snd.fst,
                                            AV.int IntKind.i64 (judgeG d14).snd.snd.snd.fst,
                                            AV.int IntKind.i64 (judgeG d14).snd.snd.snd.snd.fst,
                                            AV.int IntKind.i64 (judgeG d14).snd.snd.snd.snd.snd.fst,
                                            AV.int IntKind.i64 (judgeG d14).snd.snd.snd.snd.snd.snd.fst,
                                            AV.int IntKind.i64 (judgeG d14).snd.snd.snd.snd.snd.snd.snd.fst,
                                            AV.int IntKind.i64 (judgeG d14).snd.snd.snd.snd.snd.snd.snd.snd.fst,
                                            AV.str (judgeG d14).snd.snd.snd.snd.snd.snd.snd.snd.snd] }),
                                    (160,
                                      { v := 0, k := BK.box, fz := false, sz := 0,
                                        es :=
                                          [AV.int IntKind.i64 0, AV.int IntKind.i64 0, AV.int IntKind.i64 0,
                                            AV.int IntKind.i64 0, AV.int IntKind.i64 0, AV.int IntKind.i64 0,
                                            AV.int IntKind.i64 0, AV.int IntKind.i64 0, AV.str []] }),
                                    (96,
                                      { v := 0, k := BK.box, fz := false, sz := 0,
                                        es :=
                                          [AV.int IntKind.i64 n0, AV.int IntKind.i64 n1,
                                            AV.int IntKind.i64
                                              (IntKind.i64.wrap
                                                (IntKind.i64.wrap (n2 + 1) +
                                                  IntKind.i64.wrap (Int.tmod d13.snd 4)))] }),
                                    (96,
                                      { v := 0, k := BK.box, fz := false, sz := 0,
                                        es := [AV.int IntKind.i64 n0, AV.int IntKind.i64 n1, AV.int IntKind.i64 n2] }),
                                    (256,
                                      { v := 0, k := BK.row, fz := false, sz := 1,
                                        es := List.map (mkV false [Lf.fi IntKind.i64]) S }),
                                    (272,
                                      { v := 0, k := BK.row, fz := false, sz := 9,
                                        es := List.map (mkV true Tell_tfs) T }),
                                    (288,
                                      { v := 0, k := BK.row, fz := false, sz := 4,
                                        es := List.map (mkV true Mark_tfs) M })],
                                df := [] })))
                        (oK
                          (stRow (List.map (mkV false [Lf.fi IntKind.i64]) S) 2 0
                            [AV.int IntKind.i64
                                (IntKind.i64.wrap (IntKind.i64.wrap (n2 + 1) + IntKind.i64.wrap (Int.tmod d13.snd 4)))])
                          fun (d15 : List AV) =>
                          oK
                            (stRow (List.map (mkV true Tell_tfs) T) 2 0
                              [AV.int IntKind.i64 1, AV.int IntKind.i64 3, AV.int IntKind.i64 7,
                                AV.int IntKind.i64
                                  (IntKind.i64.wrap
                                    (IntKind.i64.wrap (n2 + 1) + IntKind.i64.wrap (Int.tmod d13.snd 4))),
                                AV.int IntKind.i64 0, AV.int IntKind.i64 0, AV.int IntKind.i64 0, AV.int IntKind.i64 0,
                                AV.str []])
                            fun (d16 : List AV) =>
                            oK
                              (elemAt true [Lf.fi IntKind.u8, Lf.fi IntKind.u8]
                                (List.map (mkV true [Lf.fi IntKind.u8, Lf.fi IntKind.u8]) l) i)
                              fun (d17 : Int × Int) =>
                              bK (decide (Int.tmod d17.snd 2 = 0))
                                (oK
                                  (stRow (List.map (mkV true Mark_tfs) M) 2 0
                                    [AV.int IntKind.i64
                                        (IntKind.i64.wrap
                                          (IntKind.i64.wrap (n2 + 1) + IntKind.i64.wrap (Int.tmod d13.snd 4))),
                                      AV.int IntKind.i64 0, AV.int IntKind.i64 1, AV.int IntKind.i64 0])
                                  fun (d18 : List AV) =>
                                  some
                                    (Sum.inl
                                      {
                                        fr :=
                                          [(0, AV.slc x (List.map (mkV true [Lf.fi IntKind.u8, Lf.fi IntKind.u8]) l)),
                                            (3, AV.sref 256 0 0 3), (4, AV.sref 272 0 0 3), (5, AV.sref 288 0 0 3),
                                            (6, AV.ptr 96 0 0 0), (7, AV.int IntKind.i64 (IntKind.i64.wrap (i + 1)))],
                                        bs :=
                                          [(96,
                                              { v := 0, k := BK.box, fz := false, sz := 0,
                                                es :=
                                                  [AV.int IntKind.i64 n0, AV.int IntKind.i64 n1,
                                                    AV.int IntKind.i64
                                                      (IntKind.i64.wrap
                                                        (IntKind.i64.wrap (n2 + 1) +
                                                          IntKind.i64.wrap (Int.tmod d13.snd 4)))] }),
                                            (256, { v := 0, k := BK.row, fz := false, sz := 1, es := d15 }),
                                            (272, { v := 0, k := BK.row, fz := false, sz := 9, es := d16 }),
                                            (288, { v := 0, k := BK.row, fz := false, sz := 4, es := d18 })],
                                        df := [] }))
                                (some
                                  (Sum.inl
                                    {
                                      fr :=
                                        [(0, AV.slc x (List.map (mkV true [Lf.fi IntKind.u8, Lf.fi IntKind.u8]) l)),
                                          (3, AV.sref 256 0 0 3), (4, AV.sref 272 0 0 3), (5, AV.sref 288 0 0 3),
                                          (6, AV.ptr 96 0 0 0), (7, AV.int IntKind.i64 (IntKind.i64.wrap (i + 1)))],
                                      bs :=
                                        [(96,
                                            { v := 0, k := BK.box, fz := false, sz := 0,
                                              es :=
                                                [AV.int IntKind.i64 n0, AV.int IntKind.i64 n1,
                                                  AV.int IntKind.i64
                                                    (IntKind.i64.wrap
                                                      (IntKind.i64.wrap (n2 + 1) +
                                                        IntKind.i64.wrap (Int.tmod d13.snd 4)))] }),
                                          (256, { v := 0, k := BK.row, fz := false, sz := 1, es := d15 }),
                                          (272, { v := 0, k := BK.row, fz := false, sz := 9, es := d16 }),
                                          (288,
                                            { v := 0, k := BK.row, fz := false, sz := 4,
                                              es := List.map (mkV true Mark_tfs) M })],
                                      df := [] })))))
                  none)
                none)
              none)
          none)))
  (some
    (Sum.inr
      (Ex.exit 0,
        {
          fr :=
            [(22, AV.bool false),
              (21, AV.int IntKind.i64 (↑(List.map (mkV true [Lf.fi IntKind.u8, Lf.fi IntKind.u8]) l).length : Int)),
              (20, AV.slc x (List.map (mkV true [Lf.fi IntKind.u8, Lf.fi IntKind.u8]) l)), (19, AV.int IntKind.i64 i),
              (0, AV.slc x (List.map (mkV true [Lf.fi IntKind.u8, Lf.fi IntKind.u8]) l)), (3, AV.sref 256 0 0 3),
              (4, AV.sref 272 0 0 3), (5, AV.sref 288 0 0 3), (6, AV.ptr 96 0 0 0), (7, AV.int IntKind.i64 i)],
          bs :=
            [(96,
                { v := 0, k := BK.box, fz := false, sz := 0,
                  es := [AV.int IntKind.i64 n0, AV.int IntKind.i64 n1, AV.int IntKind.i64 n2] }),
              (256, { v := 0, k := BK.row, fz := false, sz := 1, es := List.map (mkV false [Lf.fi IntKind.i64]) S }),
              (272, { v := 0, k := BK.row, fz := false, sz := 9, es := List.map (mkV true Tell_tfs) T }),
              (288, { v := 0, k := BK.row, fz := false, sz := 4, es := List.map (mkV true Mark_tfs) M })],
          df := [] })))
theorem nx_s_w (x : Bool) (l : List B2) (S : List Int) (T : List Tell_T) (M : List Mark_T) (n0 : Int) (n1 : Int) (n2 : Int) (i : Int) : nx_s x l S T M n0 n1 n2 i = nx_s_r x l S T M n0 n1 n2 i := by kernel_rfl

/-- Fresh: of a number greater than all that is known. -/
theorem judge_fresh (epoch : Int) (S : List Int) (T : List Tell_T) (M : List Mark_T) (c : Nat) (q : Int) (h1 : S.length = M.length) (h2 : T.length = M.length) (hc : c < M.length) (hq : 1 ≤ q) (h3 : S.getD c 0 ≤ q)
    (h4 : (T.getD c (0, 0, 0, 0, 0, 0, 0, 0, [])).2.2.2.1 ≠ q) (h5 : (M.getD c (0, 0, 0, 0)).1 ≠ q) : judgeN epoch S T M ((c : Int) + 1) epoch q = (4, 0, 0, 0, 0, 0, 0, 0, 0, []) := by
  unfold judgeN
  have e : ((c : Int) + 1 - 1).toNat = c := by omega
  rw [if_neg (by omega), if_neg (by simp)]
  simp only [e]
  rw [if_neg (by omega), if_neg h4, if_neg h5]
/-- A round's end: the next head, the same known. -/
def nxGood (x : Bool) (l : List B2) (i : Int) (r : Option (St ⊕ (Ex × St))) : Prop :=
  ∃ (n0 n1 n2 : Int) (t0 t1 t2 : Tell_T) (m0 m1 m2 : Mark_T), (0 ≤ n0 ∧ n0 ≤ 4 * (i + 1) ∧ t0.2.2.2.1 ≤ n0 ∧ m0.1 ≤ n0) ∧ (0 ≤ n1 ∧ n1 ≤ 4 * (i + 1) ∧ t1.2.2.2.1 ≤ n1 ∧ m1.1 ≤ n1) ∧ (0 ≤ n2 ∧ n2 ≤ 4 * (i + 1) ∧ t2.2.2.2.1 ≤ n2 ∧ m2.1 ≤ n2) ∧
    r = some (.inl (nxHd x l [n0, n1, n2] [t0, t1, t2] [m0, m1, m2] n0 n1 n2 (i + 1)))
theorem nx_step (x : Bool) (l : List B2) (hl : l.length ≤ 25) (hw : ∀ d ∈ l, (0 ≤ d.1 ∧ d.1 ≤ 255) ∧ (0 ≤ d.2 ∧ d.2 ≤ 255)) (i : Nat) (hi : i < l.length) (n0 n1 n2 : Int) (t0 t1 t2 : Tell_T) (m0 m1 m2 : Mark_T)
    (k0 : 0 ≤ n0 ∧ n0 ≤ 4 * (i : Int) ∧ t0.2.2.2.1 ≤ n0 ∧ m0.1 ≤ n0) (k1 : 0 ≤ n1 ∧ n1 ≤ 4 * (i : Int) ∧ t1.2.2.2.1 ≤ n1 ∧ m1.1 ≤ n1) (k2 : 0 ≤ n2 ∧ n2 ≤ 4 * (i : Int) ∧ t2.2.2.2.1 ≤ n2 ∧ m2.1 ≤ n2) :
    nxGood x l i (nx_s_r x l [n0, n1, n2] [t0, t1, t2] [m0, m1, m2] n0 n1 n2 i) := by
  unfold nx_s_r
  refine bK_iq (fun _ => ?_) (fun c => absurd (by simpa using hi) c)
  refine oK_atq (0, 0) (by omega) (by simpa using hi) ?_
  have hd : (0 ≤ (l.getD (i : Int).toNat (0, 0)).1 ∧ (l.getD (i : Int).toNat (0, 0)).1 ≤ 255) ∧ (0 ≤ (l.getD (i : Int).toNat (0, 0)).2 ∧ (l.getD (i : Int).toNat (0, 0)).2 ≤ 255) := by
    rw [getD_at (by simpa using hi)]
    exact hw _ (List.getElem_mem _)
  have hm4 : 0 ≤ Int.tmod (l.getD (i : Int).toNat (0, 0)).2 4 ∧ Int.tmod (l.getD (i : Int).toNat (0, 0)).2 4 < 4 := ⟨Int.tmod_nonneg _ hd.2.1, Int.tmod_lt_of_pos _ (by omega)⟩
  have hm3 : 0 ≤ Int.tmod (l.getD (i : Int).toNat (0, 0)).1 3 ∧ Int.tmod (l.getD (i : Int).toNat (0, 0)).1 3 < 3 := ⟨Int.tmod_nonneg _ hd.1.1, Int.tmod_lt_of_pos _ (by omega)⟩
  have e0 : IntKind.i64.wrap ((i : Int) + 1) = (i : Int) + 1 := w64 (by omega) (by omega)
  refine bK_iq (fun _ => ?_) (fun c0 => bK_iq (fun _ => ?_) (fun c1 => bK_iq (fun _ => ?_) (fun c2 => ?_)))
  · refine oK_atq (0, 0) (by omega) (by simpa using hi) ?_
    refine bK_tq (by simp) (bK_tq (by simp) (bK_tq (by simp) ?_))
    have eq : IntKind.i64.wrap (IntKind.i64.wrap (n0 + 1) + IntKind.i64.wrap (Int.tmod (l.getD (i : Int).toNat (0, 0)).2 4)) = n0 + 1 + Int.tmod (l.getD (i : Int).toNat (0, 0)).2 4 := by
      rw [w64 (n := n0 + 1) (by omega) (by omega), w64 (n := Int.tmod _ 4) (by omega) (by omega), w64 (by omega) (by omega)]
    rw [eq]
    obtain ⟨q, hq⟩ : ∃ q, q = n0 + 1 + Int.tmod (l.getD (i : Int).toNat (0, 0)).2 4 := ⟨_, rfl⟩
    rw [← hq]
    refine oK_fsq judgeS (7, (false, [n0, n1, n2]), (false, [t0, t1, t2]), (false, [m0, m1, m2]), (5, 1, 7, q, [], 1, 0, true, [])) (show (3 : Nat) < 2 ^ 40 by decide) ?_
    have hj : judgeG (7, (false, [n0, n1, n2]), (false, [t0, t1, t2]), (false, [m0, m1, m2]), (5, 1, 7, q, [], 1, 0, true, [])) = (4, 0, 0, 0, 0, 0, 0, 0, 0, []) :=
      judge_fresh 7 [n0, n1, n2] [t0, t1, t2] [m0, m1, m2] 0 q rfl rfl (by simp) (by omega) (show n0 ≤ q by omega) (show t0.2.2.2.1 ≠ q by omega) (show m0.1 ≠ q by omega)
    rw [hj]
    refine bK_fq (by simp) (bK_fq (by simp) ?_)
    refine oK_q (a := [q, n1, n2].map (mkV false [.fi .i64])) rfl ?_
    refine oK_q (a := ([(1, 1, 7, q, 0, 0, 0, 0, []), t1, t2] : List Tell_T).map (mkV true Tell_tfs)) rfl ?_
    refine oK_atq (0, 0) (by omega) (by simpa using hi) ?_
    rw [e0]
    refine bK_iq (fun _ => ?_) (fun _ => ?_)
    · refine oK_q (a := ([(q, 0, 1, 0), m1, m2] : List Mark_T).map (mkV true Mark_tfs)) rfl ?_
      exact ⟨q, n1, n2, (1, 1, 7, q, 0, 0, 0, 0, []), t1, t2, (q, 0, 1, 0), m1, m2, ⟨by omega, by omega, Int.le_refl _, Int.le_refl _⟩, ⟨by omega, by omega, by omega, by omega⟩, ⟨by omega, by omega, by omega, by omega⟩, rfl⟩
    · exact ⟨q, n1, n2, (1, 1, 7, q, 0, 0, 0, 0, []), t1, t2, m0, m1, m2, ⟨by omega, by omega, Int.le_refl _, by omega⟩, ⟨by omega, by omega, by omega, by omega⟩, ⟨by omega, by omega, by omega, by omega⟩, rfl⟩
  · refine oK_atq (0, 0) (by omega) (by simpa using hi) ?_
    refine bK_tq (by simp) (bK_tq (by simp) (bK_tq (by simp) ?_))
    have eq : IntKind.i64.wrap (IntKind.i64.wrap (n1 + 1) + IntKind.i64.wrap (Int.tmod (l.getD (i : Int).toNat (0, 0)).2 4)) = n1 + 1 + Int.tmod (l.getD (i : Int).toNat (0, 0)).2 4 := by
      rw [w64 (n := n1 + 1) (by omega) (by omega), w64 (n := Int.tmod _ 4) (by omega) (by omega), w64 (by omega) (by omega)]
    rw [eq]
    obtain ⟨q, hq⟩ : ∃ q, q = n1 + 1 + Int.tmod (l.getD (i : Int).toNat (0, 0)).2 4 := ⟨_, rfl⟩
    rw [← hq]
    refine oK_fsq judgeS (7, (false, [n0, n1, n2]), (false, [t0, t1, t2]), (false, [m0, m1, m2]), (5, 2, 7, q, [], 1, 0, true, [])) (show (3 : Nat) < 2 ^ 40 by decide) ?_
    have hj : judgeG (7, (false, [n0, n1, n2]), (false, [t0, t1, t2]), (false, [m0, m1, m2]), (5, 2, 7, q, [], 1, 0, true, [])) = (4, 0, 0, 0, 0, 0, 0, 0, 0, []) :=
      judge_fresh 7 [n0, n1, n2] [t0, t1, t2] [m0, m1, m2] 1 q rfl rfl (by simp) (by omega) (show n1 ≤ q by omega) (show t1.2.2.2.1 ≠ q by omega) (show m1.1 ≠ q by omega)
    rw [hj]
    refine bK_fq (by simp) (bK_fq (by simp) ?_)
    refine oK_q (a := [n0, q, n2].map (mkV false [.fi .i64])) rfl ?_
    refine oK_q (a := ([t0, (1, 2, 7, q, 0, 0, 0, 0, []), t2] : List Tell_T).map (mkV true Tell_tfs)) rfl ?_
    refine oK_atq (0, 0) (by omega) (by simpa using hi) ?_
    rw [e0]
    refine bK_iq (fun _ => ?_) (fun _ => ?_)
    · refine oK_q (a := ([m0, (q, 0, 1, 0), m2] : List Mark_T).map (mkV true Mark_tfs)) rfl ?_
      exact ⟨n0, q, n2, t0, (1, 2, 7, q, 0, 0, 0, 0, []), t2, m0, (q, 0, 1, 0), m2, ⟨by omega, by omega, by omega, by omega⟩, ⟨by omega, by omega, Int.le_refl _, Int.le_refl _⟩, ⟨by omega, by omega, by omega, by omega⟩, rfl⟩
    · exact ⟨n0, q, n2, t0, (1, 2, 7, q, 0, 0, 0, 0, []), t2, m0, m1, m2, ⟨by omega, by omega, by omega, by omega⟩, ⟨by omega, by omega, Int.le_refl _, by omega⟩, ⟨by omega, by omega, by omega, by omega⟩, rfl⟩
  · refine oK_atq (0, 0) (by omega) (by simpa using hi) ?_
    refine bK_tq (by simp) (bK_tq (by simp) (bK_tq (by simp) ?_))
    have eq : IntKind.i64.wrap (IntKind.i64.wrap (n2 + 1) + IntKind.i64.wrap (Int.tmod (l.getD (i : Int).toNat (0, 0)).2 4)) = n2 + 1 + Int.tmod (l.getD (i : Int).toNat (0, 0)).2 4 := by
      rw [w64 (n := n2 + 1) (by omega) (by omega), w64 (n := Int.tmod _ 4) (by omega) (by omega), w64 (by omega) (by omega)]
    rw [eq]
    obtain ⟨q, hq⟩ : ∃ q, q = n2 + 1 + Int.tmod (l.getD (i : Int).toNat (0, 0)).2 4 := ⟨_, rfl⟩
    rw [← hq]
    refine oK_fsq judgeS (7, (false, [n0, n1, n2]), (false, [t0, t1, t2]), (false, [m0, m1, m2]), (5, 3, 7, q, [], 1, 0, true, [])) (show (3 : Nat) < 2 ^ 40 by decide) ?_
    have hj : judgeG (7, (false, [n0, n1, n2]), (false, [t0, t1, t2]), (false, [m0, m1, m2]), (5, 3, 7, q, [], 1, 0, true, [])) = (4, 0, 0, 0, 0, 0, 0, 0, 0, []) :=
      judge_fresh 7 [n0, n1, n2] [t0, t1, t2] [m0, m1, m2] 2 q rfl rfl (by simp) (by omega) (show n2 ≤ q by omega) (show t2.2.2.2.1 ≠ q by omega) (show m2.1 ≠ q by omega)
    rw [hj]
    refine bK_fq (by simp) (bK_fq (by simp) ?_)
    refine oK_q (a := [n0, n1, q].map (mkV false [.fi .i64])) rfl ?_
    refine oK_q (a := ([t0, t1, (1, 3, 7, q, 0, 0, 0, 0, [])] : List Tell_T).map (mkV true Tell_tfs)) rfl ?_
    refine oK_atq (0, 0) (by omega) (by simpa using hi) ?_
    rw [e0]
    refine bK_iq (fun _ => ?_) (fun _ => ?_)
    · refine oK_q (a := ([m0, m1, (q, 0, 1, 0)] : List Mark_T).map (mkV true Mark_tfs)) rfl ?_
      exact ⟨n0, n1, q, t0, t1, (1, 3, 7, q, 0, 0, 0, 0, []), m0, m1, (q, 0, 1, 0), ⟨by omega, by omega, by omega, by omega⟩, ⟨by omega, by omega, by omega, by omega⟩, ⟨by omega, by omega, Int.le_refl _, Int.le_refl _⟩, rfl⟩
    · exact ⟨n0, n1, q, t0, t1, (1, 3, 7, q, 0, 0, 0, 0, []), m0, m1, m2, ⟨by omega, by omega, by omega, by omega⟩, ⟨by omega, by omega, by omega, by omega⟩, ⟨by omega, by omega, Int.le_refl _, by omega⟩, rfl⟩
  · exfalso
    rw [w64 (by omega) (by omega)] at c0 c1 c2
    omega

def nxEnd (x : Bool) (l : List B2) (S : List Int) (T : List Tell_T) (M : List Mark_T) (n0 n1 n2 : Int) (i : Int) : St := { fr := [(22, AV.bool false), (21, AV.int IntKind.i64 (↑(List.map (mkV true [Lf.fi IntKind.u8, Lf.fi IntKind.u8]) l).length : Int)), (20, AV.slc x (List.map (mkV true [Lf.fi IntKind.u8, Lf.fi IntKind.u8]) l)), (19, AV.int IntKind.i64 i), (0, AV.slc x (List.map (mkV true [Lf.fi IntKind.u8, Lf.fi IntKind.u8]) l)), (3, AV.sref 256 0 0 3), (4, AV.sref 272 0 0 3), (5, AV.sref 288 0 0 3), (6, AV.ptr 96 0 0 0), (7, AV.int IntKind.i64 i)], bs := [(96, { v := 0, k := BK.box, fz := false, sz := 0, es := [AV.int IntKind.i64 n0, AV.int IntKind.i64 n1, AV.int IntKind.i64 n2] }), (256, { v := 0, k := BK.row, fz := false, sz := 1, es := List.map (mkV false [Lf.fi IntKind.i64]) S }), (272, { v := 0, k := BK.row, fz := false, sz := 9, es := List.map (mkV true Tell_tfs) T }), (288, { v := 0, k := BK.row, fz := false, sz := 4, es := List.map (mkV true Mark_tfs) M })], df := [] }
theorem loops6 : (loopsOf 0 (codeOf Try.prog 6)).map (·.1) = [0] := by kernel_rfl
theorem one6 : OneLoops Try.prog 6 := by unfold OneLoops; rw [loops6]; decide
theorem at6 : At 0 (codeOf Try.prog 6) 0 (.loop (bodyAt Try.prog 6 0)) := at_body one6 (by rw [loops6]; decide)
abbrev NxT : Type := List Int × List Tell_T × List Mark_T × Int × Int × Int
def nxE (x : Bool) (l : List B2) (y : NxT) : St := nxEnd x l y.1 y.2.1 y.2.2.1 y.2.2.2.1 y.2.2.2.2.1 y.2.2.2.2.2 l.length
theorem nx_run (x : Bool) (l : List B2) (hl : l.length ≤ 25) (hw : ∀ d ∈ l, (0 ≤ d.1 ∧ d.1 ≤ 255) ∧ (0 ≤ d.2 ∧ d.2 ≤ 255)) : ∀ (k i : Nat), i + k = l.length → ∀ (n0 n1 n2 : Int) (t0 t1 t2 : Tell_T) (m0 m1 m2 : Mark_T),
    (0 ≤ n0 ∧ n0 ≤ 4 * (i : Int) ∧ t0.2.2.2.1 ≤ n0 ∧ m0.1 ≤ n0) → (0 ≤ n1 ∧ n1 ≤ 4 * (i : Int) ∧ t1.2.2.2.1 ≤ n1 ∧ m1.1 ≤ n1) → (0 ≤ n2 ∧ n2 ≤ 4 * (i : Int) ∧ t2.2.2.2.1 ≤ n2 ∧ m2.1 ≤ n2) →
    ∃ y : NxT, ∀ m, k < m → Runs' Try.prog cfg PK6 6 0 m (nxHd x l [n0, n1, n2] [t0, t1, t2] [m0, m1, m2] n0 n1 n2 i) (.exit 0, nxE x l y)
  | 0, i, hi, n0, n1, n2, t0, t1, t2, m0, m1, m2, k0, k1, k2 => by
    refine ⟨([n0, n1, n2], [t0, t1, t2], [m0, m1, m2], n0, n1, n2), fun m hm => ?_⟩
    obtain ⟨m, rfl⟩ : ∃ m', m = m' + 1 := ⟨m - 1, by omega⟩
    refine Runs'.done (lp := LP0) LPok.none at6 ((nx_s_w x l _ _ _ n0 n1 n2 i).trans ?_)
    have : i = l.length := by omega
    subst this
    unfold nx_s_r
    rw [bK_neg (by simp)]
    rfl
  | k + 1, i, hi, n0, n1, n2, t0, t1, t2, m0, m1, m2, k0, k1, k2 => by
    obtain ⟨a0, a1, a2, b0, b1, b2, c0, c1, c2, g0, g1, g2, he⟩ := nx_step x l hl hw i (by omega) n0 n1 n2 t0 t1 t2 m0 m1 m2 k0 k1 k2
    obtain ⟨y, hy⟩ := nx_run x l hl hw k (i + 1) (by omega) a0 a1 a2 b0 b1 b2 c0 c1 c2 (by simpa using g0) (by simpa using g1) (by simpa using g2)
    refine ⟨y, fun m hm => ?_⟩
    obtain ⟨m, rfl⟩ : ∃ m', m = m' + 1 := ⟨m - 1, by omega⟩
    exact Runs'.step (lp := LP0) LPok.none at6 ((nx_s_w x l _ _ _ n0 n1 n2 i).trans he) (by have := hy m (by omega); simpa using this)
def nxZ : Tell_T := (0, 0, 0, 0, 0, 0, 0, 0, [])
def nxZm : Mark_T := (0, 0, 0, 0)
def nxH (d : Bool × List B2) : St := nxHd d.1 d.2 [0, 0, 0] [nxZ, nxZ, nxZ] [nxZm, nxZm, nxZm] 0 0 0 0
def nxP (d : Bool × List B2) : Prop := d.2.length ≤ 25 ∧ ∀ e ∈ d.2, (0 ≤ e.1 ∧ e.1 ≤ 255) ∧ (0 ≤ e.2 ∧ e.2 ≤ 255)
theorem nx_ex (d : Bool × List B2) (h : nxP d) : ∃ y : NxT, Runs' Try.prog cfg PK6 6 0 rounds (nxH d) (.exit 0, nxE d.1 d.2 y) := by
  obtain ⟨y, hy⟩ := nx_run d.1 d.2 h.1 h.2 d.2.length 0 (by omega) 0 0 0 nxZ nxZ nxZ nxZm nxZm nxZm (by decide) (by decide) (by decide)
  exact ⟨y, hy rounds (by have := h.1; simp only [rounds]; omega)⟩
noncomputable def nxF (d : Bool × List B2) : NxT := open Classical in if h : nxP d then Classical.choose (nx_ex d h) else ([], [], [], 0, 0, 0)
noncomputable def nxL : LP := LP.of nxH nxP fun d => .leaf (.exit 0, nxE d.1 d.2 (nxF d))
noncomputable def LPn : LPs := LPs.add LP0 6 0 nxL
theorem LPn_ok : LPok Try.prog cfg PK6 LPn 6 := by
  refine LPok.addH LPok.none one6 fun d h => ?_
  have := Classical.choose_spec (nx_ex d h)
  unfold nxF
  rw [dif_pos h]
  exact this
theorem nxH_inj (d d' : Bool × List B2) (h : nxH d = nxH d') : d = d' := by
  obtain ⟨x, l⟩ := d
  obtain ⟨x', l'⟩ := d'
  simp only [nxH, nxHd, St.mk.injEq, List.cons.injEq, Prod.mk.injEq, AV.slc.injEq, and_true, true_and] at h
  rw [h.1, map_inj (fs := [.fi .u8, .fi .u8]) rfl h.2]
abbrev sessNext_id : Nat := 6
abbrev sessNext_sh : Shp := [none]
abbrev sessNext_fs : List Lf := [.fl true [.fi .u8, .fi .u8]]
abbrev sessNext_rsh : Shp := [none]
abbrev sessNext_rfs : List Lf := [.fb]
noncomputable def sessNext_r (l_x : Bool) (l : List (Int × Int)) : Option Ret :=
  oK (begunS.dec [] []) fun (d0 : PUnit) =>
  bK (decide (25 < (↑(List.map (mkV true [Lf.fi IntKind.u8, Lf.fi IntKind.u8]) l).length : Int)))
    (some { pan := false, res := AV.bool true, out := [], new := [] })
    (oK
      (nxL.dec
        {
          fr :=
            [(0, AV.slc l_x (List.map (mkV true [Lf.fi IntKind.u8, Lf.fi IntKind.u8]) l)), (3, AV.sref 256 0 0 3),
              (4, AV.sref 272 0 0 3), (5, AV.sref 288 0 0 3), (6, AV.ptr 96 0 0 0), (7, AV.int IntKind.i64 0)],
          bs :=
            [(96,
                { v := 0, k := BK.box, fz := false, sz := 0,
                  es := [AV.int IntKind.i64 0, AV.int IntKind.i64 0, AV.int IntKind.i64 0] }),
              (256,
                { v := 0, k := BK.row, fz := false, sz := 1,
                  es := [AV.int IntKind.i64 0, AV.int IntKind.i64 0, AV.int IntKind.i64 0] }),
              (272,
                { v := 0, k := BK.row, fz := false, sz := 9,
                  es :=
                    [AV.agg
                        [AV.int IntKind.i64 0, AV.int IntKind.i64 0, AV.int IntKind.i64 0, AV.int IntKind.i64 0,
                          AV.int IntKind.i64 0, AV.int IntKind.i64 0, AV.int IntKind.i64 0, AV.int IntKind.i64 0,
                          AV.str []],
                      AV.agg
                        [AV.int IntKind.i64 0, AV.int IntKind.i64 0, AV.int IntKind.i64 0, AV.int IntKind.i64 0,
                          AV.int IntKind.i64 0, AV.int IntKind.i64 0, AV.int IntKind.i64 0, AV.int IntKind.i64 0,
                          AV.str []],
                      AV.agg
                        [AV.int IntKind.i64 0, AV.int IntKind.i64 0, AV.int IntKind.i64 0, AV.int IntKind.i64 0,
                          AV.int IntKind.i64 0, AV.int IntKind.i64 0, AV.int IntKind.i64 0, AV.int IntKind.i64 0,
                          AV.str []]] }),
              (288,
                { v := 0, k := BK.row, fz := false, sz := 4,
                  es :=
                    [AV.agg [AV.int IntKind.i64 0, AV.int IntKind.i64 0, AV.int IntKind.i64 0, AV.int IntKind.i64 0],
                      AV.agg [AV.int IntKind.i64 0, AV.int IntKind.i64 0, AV.int IntKind.i64 0, AV.int IntKind.i64 0],
                      AV.agg
                        [AV.int IntKind.i64 0, AV.int IntKind.i64 0, AV.int IntKind.i64 0, AV.int IntKind.i64 0]] })],
          df := [] })
      fun (d1 : Bool × List (Int × Int)) => some { pan := false, res := AV.bool true, out := [], new := [] })
theorem sessNext_w (l_x : Bool) (l : List (Int × Int)) : unitQ Try.prog cfg PK6 LPn true 6 (groupA sessNext_sh (Tu.mk sessNext_fs (l_x, l))) [] = sessNext_r l_x l := by kernel_rfl

theorem sessNext_yes (l_x : Bool) (l : List (Int × Int)) (h : Tu.wf sessNext_fs (l_x, l)) : Yes (sessNext_r l_x l) := by
  unfold sessNext_r
  refine oK_fsq begunS () trivial ?_
  refine bK_iq (fun _ => yes_leaf) (fun c => ?_)
  refine oK_lpq nxH_inj (l_x, l) ⟨by simp at c; show l.length ≤ 25; omega, fun e he => h.2 e he⟩ ?_
  exact yes_leaf

end Go.Proofs.Ytjohkibidibihaa
