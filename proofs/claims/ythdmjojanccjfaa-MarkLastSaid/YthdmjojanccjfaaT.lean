/- A part of the proof: contracts of functions. -/
import Derived.Test.YthdmjojanccjfaaP
import Derived.Test.YthdmjojanccjfaaAbCl

set_option linter.unusedVariables false
set_option linter.unusedSimpArgs false
set_option maxRecDepth 100000
namespace Go.Proofs.Ythdmjojanccjfaa
open Go Go.Ab
abbrev B2 : Type := Int × Int
abbrev B2_fs : List Lf := [.fi .u8, .fi .u8]
def lastB (m1 m2 m3 : Mark_T) : Blk := boxB [.int .i64 0, .int .i64 m1.1, .int .i64 m2.1, .int .i64 m3.1]
def mlHd (x : Bool) (l : List B2) (m1 m2 m3 : Mark_T) (i : Int) : St :=
  { fr := [(0, .slc x (l.map (mkV true B2_fs))), (3, .slc false ([m1, m2, m3].map (mkV true Mark_tfs))), (4, .ptr 64 0 0 0), (5, .int .i64 i)], bs := [(64, lastB m1 m2 m3)], df := [] }
def mkHd (x : Bool) (l : List B2) (m1 m2 m3 : Mark_T) (i k : Int) : St :=
  { fr := [(0, .slc x (l.map (mkV true B2_fs))), (3, .slc false ([m1, m2, m3].map (mkV true Mark_tfs))), (4, .ptr 64 0 0 0), (5, .int .i64 i), (8, .int .i64 k)], bs := [(64, lastB m1 m2 m3)], df := [] }
def msHd (x : Bool) (l : List B2) (m1 m2 m3 : Mark_T) (i k s : Int) : St :=
  { fr := [(0, .slc x (l.map (mkV true B2_fs))), (3, .slc false ([m1, m2, m3].map (mkV true Mark_tfs))), (4, .ptr 64 0 0 0), (5, .int .i64 i), (8, .int .i64 k), (9, .int .i64 s)], bs := [(64, lastB m1 m2 m3)], df := [] }
noncomputable def ms_s (x : Bool) (l : List B2) (m1 m2 m3 : Mark_T) (i k s : Int) : Option (St ⊕ (Ex × St)) := stepK Try.prog cfg PK7 LP0 4 4 (msHd x l m1 m2 m3 i k s)
noncomputable def ms_s_r (x : Bool) (l : List B2) (m1 : Mark_T) (m2 : Mark_T) (m3 : Mark_T) (i : Int) (k : Int) (s : Int) : Option (St ⊕ Ex × St) :=
  bK (decide (s < 20))
  (oK (isMS.dec [AV.slc false [AV.agg [AV.int IntKind.i64 m1.fst, AV.int IntKind.i64 m1.snd.fst, AV.int IntKind.i64 m1.snd.snd.fst, AV.int IntKind.i64 m1.snd.snd.snd], AV.agg [AV.int IntKind.i64 m2.fst, AV.int IntKind.i64 m2.snd.fst, AV.int IntKind.i64 m2.snd.snd.fst, AV.int IntKind.i64 m2.snd.snd.snd], AV.agg [AV.int IntKind.i64 m3.fst, AV.int IntKind.i64 m3.snd.fst, AV.int IntKind.i64 m3.snd.snd.fst, AV.int IntKind.i64 m3.snd.snd.snd]], AV.int IntKind.i64 k, AV.int IntKind.i64 s] []) fun (d0 : (Bool × List (Int × Int × Int × Int)) × Int × Int) =>
    bK (decide (k = 0))
      (bK (decide (s = 0))
        (bK (!(isL d0.fst.snd d0.snd.fst d0.snd.snd).snd == decide (0 < s)) (some (Sum.inr (Ex.ret, { fr := [(0, AV.slc x (List.map (mkV true [Lf.fi IntKind.u8, Lf.fi IntKind.u8]) l)), (2, AV.bool false), (3, AV.slc false [AV.agg [AV.int IntKind.i64 m1.fst, AV.int IntKind.i64 m1.snd.fst, AV.int IntKind.i64 m1.snd.snd.fst, AV.int IntKind.i64 m1.snd.snd.snd], AV.agg [AV.int IntKind.i64 m2.fst, AV.int IntKind.i64 m2.snd.fst, AV.int IntKind.i64 m2.snd.snd.fst, AV.int IntKind.i64 m2.snd.snd.snd], AV.agg [AV.int IntKind.i64 m3.fst, AV.int IntKind.i64 m3.snd.fst, AV.int IntKind.i64 m3.snd.snd.fst, AV.int IntKind.i64 m3.snd.snd.snd]]), (4, AV.ptr 64 0 0 0), (5, AV.int IntKind.i64 i), (8, AV.int IntKind.i64 k)], bs := [(64, { v := 0, k := BK.box, fz := false, sz := 0, es := [AV.int IntKind.i64 0, AV.int IntKind.i64 m1.fst, AV.int IntKind.i64 m2.fst, AV.int IntKind.i64 m3.fst] })], df := [] })))
          (bK (isL d0.fst.snd d0.snd.fst d0.snd.snd).snd
            (bK (!decide ((isL d0.fst.snd d0.snd.fst d0.snd.snd).fst.fst = s)) (some (Sum.inr (Ex.ret, { fr := [(0, AV.slc x (List.map (mkV true [Lf.fi IntKind.u8, Lf.fi IntKind.u8]) l)), (2, AV.bool false), (3, AV.slc false [AV.agg [AV.int IntKind.i64 m1.fst, AV.int IntKind.i64 m1.snd.fst, AV.int IntKind.i64 m1.snd.snd.fst, AV.int IntKind.i64 m1.snd.snd.snd], AV.agg [AV.int IntKind.i64 m2.fst, AV.int IntKind.i64 m2.snd.fst, AV.int IntKind.i64 m2.snd.snd.fst, AV.int IntKind.i64 m2.snd.snd.snd], AV.agg [AV.int IntKind.i64 m3.fst, AV.int IntKind.i64 m3.snd.fst, AV.int IntKind.i64 m3.snd.snd.fst, AV.int IntKind.i64 m3.snd.snd.snd]]), (4, AV.ptr 64 0 0 0), (5, AV.int IntKind.i64 i), (8, AV.int IntKind.i64 k)], bs := [(64, { v := 0, k := BK.box, fz := false, sz := 0, es := [AV.int IntKind.i64 0, AV.int IntKind.i64 m1.fst, AV.int IntKind.i64 m2.fst, AV.int IntKind.i64 m3.fst] })], df := [] })))
              (some (Sum.inl { fr := [(0, AV.slc x (List.map (mkV true [Lf.fi IntKind.u8, Lf.fi IntKind.u8]) l)), (3, AV.slc false [AV.agg [AV.int IntKind.i64 m1.fst, AV.int IntKind.i64 m1.snd.fst, AV.int IntKind.i64 m1.snd.snd.fst, AV.int IntKind.i64 m1.snd.snd.snd], AV.agg [AV.int IntKind.i64 m2.fst, AV.int IntKind.i64 m2.snd.fst, AV.int IntKind.i64 m2.snd.snd.fst, AV.int IntKind.i64 m2.snd.snd.snd], AV.agg [AV.int IntKind.i64 m3.fst, AV.int IntKind.i64 m3.snd.fst, AV.int IntKind.i64 m3.snd.snd.fst, AV.int IntKind.i64 m3.snd.snd.snd]]), (4, AV.ptr 64 0 0 0), (5, AV.int IntKind.i64 i), (8, AV.int IntKind.i64 k), (9, AV.int IntKind.i64 (IntKind.i64.wrap (s + 1)))], bs := [(64, { v := 0, k := BK.box, fz := false, sz := 0, es := [AV.int IntKind.i64 0, AV.int IntKind.i64 m1.fst, AV.int IntKind.i64 m2.fst, AV.int IntKind.i64 m3.fst] })], df := [] })))
            (some (Sum.inl { fr := [(0, AV.slc x (List.map (mkV true [Lf.fi IntKind.u8, Lf.fi IntKind.u8]) l)), (3, AV.slc false [AV.agg [AV.int IntKind.i64 m1.fst, AV.int IntKind.i64 m1.snd.fst, AV.int IntKind.i64 m1.snd.snd.fst, AV.int IntKind.i64 m1.snd.snd.snd], AV.agg [AV.int IntKind.i64 m2.fst, AV.int IntKind.i64 m2.snd.fst, AV.int IntKind.i64 m2.snd.snd.fst, AV.int IntKind.i64 m2.snd.snd.snd], AV.agg [AV.int IntKind.i64 m3.fst, AV.int IntKind.i64 m3.snd.fst, AV.int IntKind.i64 m3.snd.snd.fst, AV.int IntKind.i64 m3.snd.snd.snd]]), (4, AV.ptr 64 0 0 0), (5, AV.int IntKind.i64 i), (8, AV.int IntKind.i64 k), (9, AV.int IntKind.i64 (IntKind.i64.wrap (s + 1)))], bs := [(64, { v := 0, k := BK.box, fz := false, sz := 0, es := [AV.int IntKind.i64 0, AV.int IntKind.i64 m1.fst, AV.int IntKind.i64 m2.fst, AV.int IntKind.i64 m3.fst] })], df := [] }))))
        (bK (!(isL d0.fst.snd d0.snd.fst d0.snd.snd).snd == false) (some (Sum.inr (Ex.ret, { fr := [(0, AV.slc x (List.map (mkV true [Lf.fi IntKind.u8, Lf.fi IntKind.u8]) l)), (2, AV.bool false), (3, AV.slc false [AV.agg [AV.int IntKind.i64 m1.fst, AV.int IntKind.i64 m1.snd.fst, AV.int IntKind.i64 m1.snd.snd.fst, AV.int IntKind.i64 m1.snd.snd.snd], AV.agg [AV.int IntKind.i64 m2.fst, AV.int IntKind.i64 m2.snd.fst, AV.int IntKind.i64 m2.snd.snd.fst, AV.int IntKind.i64 m2.snd.snd.snd], AV.agg [AV.int IntKind.i64 m3.fst, AV.int IntKind.i64 m3.snd.fst, AV.int IntKind.i64 m3.snd.snd.fst, AV.int IntKind.i64 m3.snd.snd.snd]]), (4, AV.ptr 64 0 0 0), (5, AV.int IntKind.i64 i), (8, AV.int IntKind.i64 k)], bs := [(64, { v := 0, k := BK.box, fz := false, sz := 0, es := [AV.int IntKind.i64 0, AV.int IntKind.i64 m1.fst, AV.int IntKind.i64 m2.fst, AV.int IntKind.i64 m3.fst] })], df := [] })))
          (bK (isL d0.fst.snd d0.snd.fst d0.snd.snd).snd
            (bK (!decide ((isL d0.fst.snd d0.snd.fst d0.snd.snd).fst.fst = s)) (some (Sum.inr (Ex.ret, { fr := [(0, AV.slc x (List.map (mkV true [Lf.fi IntKind.u8, Lf.fi IntKind.u8]) l)), (2, AV.bool false), (3, AV.slc false [AV.agg [AV.int IntKind.i64 m1.fst, AV.int IntKind.i64 m1.snd.fst, AV.int IntKind.i64 m1.snd.snd.fst, AV.int IntKind.i64 m1.snd.snd.snd], AV.agg [AV.int IntKind.i64 m2.fst, AV.int IntKind.i64 m2.snd.fst, AV.int IntKind.i64 m2.snd.snd.fst, AV.int IntKind.i64 m2.snd.snd.snd], AV.agg [AV.int IntKind.i64 m3.fst, AV.int IntKind.i64 m3.snd.fst, AV.int IntKind.i64 m3.snd.snd.fst, AV.int IntKind.i64 m3.snd.snd.snd]]), (4, AV.ptr 64 0 0 0), (5, AV.int IntKind.i64 i), (8, AV.int IntKind.i64 k)], bs := [(64, { v := 0, k := BK.box, fz := false, sz := 0, es := [AV.int IntKind.i64 0, AV.int IntKind.i64 m1.fst, AV.int IntKind.i64 m2.fst, AV.int IntKind.i64 m3.fst] })], df := [] })))
              (some (Sum.inl { fr := [(0, AV.slc x (List.map (mkV true [Lf.fi IntKind.u8, Lf.fi IntKind.u8]) l)), (3, AV.slc false [AV.agg [AV.int IntKind.i64 m1.fst, AV.int IntKind.i64 m1.snd.fst, AV.int IntKind.i64 m1.snd.snd.fst, AV.int IntKind.i64 m1.snd.snd.snd], AV.agg [AV.int IntKind.i64 m2.fst, AV.int IntKind.i64 m2.snd.fst, AV.int IntKind.i64 m2.snd.snd.fst, AV.int IntKind.i64 m2.snd.snd.snd], AV.agg [AV.int IntKind.i64 m3.fst, AV.int IntKind.i64 m3.snd.fst, AV.int IntKind.i64 m3.snd.snd.fst, AV.int IntKind.i64 m3.snd.snd.snd]]), (4, AV.ptr 64 0 0 0), (5, AV.int IntKind.i64 i), (8, AV.int IntKind.i64 k), (9, AV.int IntKind.i64 (IntKind.i64.wrap (s + 1)))], bs := [(64, { v := 0, k := BK.box, fz := false, sz := 0, es := [AV.int IntKind.i64 0, AV.int IntKind.i64 m1.fst, AV.int IntKind.i64 m2.fst, AV.int IntKind.i64 m3.fst] })], df := [] })))
            (some (Sum.inl { fr := [(0, AV.slc x (List.map (mkV true [Lf.fi IntKind.u8, Lf.fi IntKind.u8]) l)), (3, AV.slc false [AV.agg [AV.int IntKind.i64 m1.fst, AV.int IntKind.i64 m1.snd.fst, AV.int IntKind.i64 m1.snd.snd.fst, AV.int IntKind.i64 m1.snd.snd.snd], AV.agg [AV.int IntKind.i64 m2.fst, AV.int IntKind.i64 m2.snd.fst, AV.int IntKind.i64 m2.snd.snd.fst, AV.int IntKind.i64 m2.snd.snd.snd], AV.agg [AV.int IntKind.i64 m3.fst, AV.int IntKind.i64 m3.snd.fst, AV.int IntKind.i64 m3.snd.snd.fst, AV.int IntKind.i64 m3.snd.snd.snd]]), (4, AV.ptr 64 0 0 0), (5, AV.int IntKind.i64 i), (8, AV.int IntKind.i64 k), (9, AV.int IntKind.i64 (IntKind.i64.wrap (s + 1)))], bs := [(64, { v := 0, k := BK.box, fz := false, sz := 0, es := [AV.int IntKind.i64 0, AV.int IntKind.i64 m1.fst, AV.int IntKind.i64 m2.fst, AV.int IntKind.i64 m3.fst] })], df := [] })))))
      (bK (decide (k = 1))
        (bK (decide (s = m1.fst))
          (bK (!(isL d0.fst.snd d0.snd.fst d0.snd.snd).snd == decide (0 < s)) (some (Sum.inr (Ex.ret, { fr := [(0, AV.slc x (List.map (mkV true [Lf.fi IntKind.u8, Lf.fi IntKind.u8]) l)), (2, AV.bool false), (3, AV.slc false [AV.agg [AV.int IntKind.i64 m1.fst, AV.int IntKind.i64 m1.snd.fst, AV.int IntKind.i64 m1.snd.snd.fst, AV.int IntKind.i64 m1.snd.snd.snd], AV.agg [AV.int IntKind.i64 m2.fst, AV.int IntKind.i64 m2.snd.fst, AV.int IntKind.i64 m2.snd.snd.fst, AV.int IntKind.i64 m2.snd.snd.snd], AV.agg [AV.int IntKind.i64 m3.fst, AV.int IntKind.i64 m3.snd.fst, AV.int IntKind.i64 m3.snd.snd.fst, AV.int IntKind.i64 m3.snd.snd.snd]]), (4, AV.ptr 64 0 0 0), (5, AV.int IntKind.i64 i), (8, AV.int IntKind.i64 k)], bs := [(64, { v := 0, k := BK.box, fz := false, sz := 0, es := [AV.int IntKind.i64 0, AV.int IntKind.i64 m1.fst, AV.int IntKind.i64 m2.fst, AV.int IntKind.i64 m3.fst] })], df := [] })))
            (bK (isL d0.fst.snd d0.snd.fst d0.snd.snd).snd
              (bK (!decide ((isL d0.fst.snd d0.snd.fst d0.snd.snd).fst.fst = s)) (some (Sum.inr (Ex.ret, { fr := [(0, AV.slc x (List.map (mkV true [Lf.fi IntKind.u8, Lf.fi IntKind.u8]) l)), (2, AV.bool false), (3, AV.slc false [AV.agg [AV.int IntKind.i64 m1.fst, AV.int IntKind.i64 m1.snd.fst, AV.int IntKind.i64 m1.snd.snd.fst, AV.int IntKind.i64 m1.snd.snd.snd], AV.agg [AV.int IntKind.i64 m2.fst, AV.int IntKind.i64 m2.snd.fst, AV.int IntKind.i64 m2.snd.snd.fst, AV.int IntKind.i64 m2.snd.snd.snd], AV.agg [AV.int IntKind.i64 m3.fst, AV.int IntKind.i64 m3.snd.fst, AV.int IntKind.i64 m3.snd.snd.fst, AV.int IntKind.i64 m3.snd.snd.snd]]), (4, AV.ptr 64 0 0 0), (5, AV.int IntKind.i64 i), (8, AV.int IntKind.i64 k)], bs := [(64, { v := 0, k := BK.box, fz := false, sz := 0, es := [AV.int IntKind.i64 0, AV.int IntKind.i64 m1.fst, AV.int IntKind.i64 m2.fst, AV.int IntKind.i64 m3.fst] })], df := [] })))
                (some (Sum.inl { fr := [(0, AV.slc x (List.map (mkV true [Lf.fi IntKind.u8, Lf.fi IntKind.u8]) l)), (3, AV.slc false [AV.agg [AV.int IntKind.i64 m1.fst, AV.int IntKind.i64 m1.snd.fst, AV.int IntKind.i64 m1.snd.snd.fst, AV.int IntKind.i64 m1.snd.snd.snd], AV.agg [AV.int IntKind.i64 m2.fst, AV.int IntKind.i64 m2.snd.fst, AV.int IntKind.i64 m2.snd.snd.fst, AV.int IntKind.i64 m2.snd.snd.snd], AV.agg [AV.int IntKind.i64 m3.fst, AV.int IntKind.i64 m3.snd.fst, AV.int IntKind.i64 m3.snd.snd.fst, AV.int IntKind.i64 m3.snd.snd.snd]]), (4, AV.ptr 64 0 0 0), (5, AV.int IntKind.i64 i), (8, AV.int IntKind.i64 k), (9, AV.int IntKind.i64 (IntKind.i64.wrap (s + 1)))], bs := [(64, { v := 0, k := BK.box, fz := false, sz := 0, es := [AV.int IntKind.i64 0, AV.int IntKind.i64 m1.fst, AV.int IntKind.i64 m2.fst, AV.int IntKind.i64 m3.fst] })], df := [] })))
              (some (Sum.inl { fr := [(0, AV.slc x (List.map (mkV true [Lf.fi IntKind.u8, Lf.fi IntKind.u8]) l)), (3, AV.slc false [AV.agg [AV.int IntKind.i64 m1.fst, AV.int IntKind.i64 m1.snd.fst, AV.int IntKind.i64 m1.snd.snd.fst, AV.int IntKind.i64 m1.snd.snd.snd], AV.agg [AV.int IntKind.i64 m2.fst, AV.int IntKind.i64 m2.snd.fst, AV.int IntKind.i64 m2.snd.snd.fst, AV.int IntKind.i64 m2.snd.snd.snd], AV.agg [AV.int IntKind.i64 m3.fst, AV.int IntKind.i64 m3.snd.fst, AV.int IntKind.i64 m3.snd.snd.fst, AV.int IntKind.i64 m3.snd.snd.snd]]), (4, AV.ptr 64 0 0 0), (5, AV.int IntKind.i64 i), (8, AV.int IntKind.i64 k), (9, AV.int IntKind.i64 (IntKind.i64.wrap (s + 1)))], bs := [(64, { v := 0, k := BK.box, fz := false, sz := 0, es := [AV.int IntKind.i64 0, AV.int IntKind.i64 m1.fst, AV.int IntKind.i64 m2.fst, AV.int IntKind.i64 m3.fst] })], df := [] }))))
          (bK (!(isL d0.fst.snd d0.snd.fst d0.snd.snd).snd == false) (some (Sum.inr (Ex.ret, { fr := [(0, AV.slc x (List.map (mkV true [Lf.fi IntKind.u8, Lf.fi IntKind.u8]) l)), (2, AV.bool false), (3, AV.slc false [AV.agg [AV.int IntKind.i64 m1.fst, AV.int IntKind.i64 m1.snd.fst, AV.int IntKind.i64 m1.snd.snd.fst, AV.int IntKind.i64 m1.snd.snd.snd], AV.agg [AV.int IntKind.i64 m2.fst, AV.int IntKind.i64 m2.snd.fst, AV.int IntKind.i64 m2.snd.snd.fst, AV.int IntKind.i64 m2.snd.snd.snd], AV.agg [AV.int IntKind.i64 m3.fst, AV.int IntKind.i64 m3.snd.fst, AV.int IntKind.i64 m3.snd.snd.fst, AV.int IntKind.i64 m3.snd.snd.snd]]), (4, AV.ptr 64 0 0 0), (5, AV.int IntKind.i64 i), (8, AV.int IntKind.i64 k)], bs := [(64, { v := 0, k := BK.box, fz := false, sz := 0, es := [AV.int IntKind.i64 0, AV.int IntKind.i64 m1.fst, AV.int IntKind.i64 m2.fst, AV.int IntKind.i64 m3.fst] })], df := [] })))
            (bK (isL d0.fst.snd d0.snd.fst d0.snd.snd).snd
              (bK (!decide ((isL d0.fst.snd d0.snd.fst d0.snd.snd).fst.fst = s)) (some (Sum.inr (Ex.ret, { fr := [(0, AV.slc x (List.map (mkV true [Lf.fi IntKind.u8, Lf.fi IntKind.u8]) l)), (2, AV.bool false), (3, AV.slc false [AV.agg [AV.int IntKind.i64 m1.fst, AV.int IntKind.i64 m1.snd.fst, AV.int IntKind.i64 m1.snd.snd.fst, AV.int IntKind.i64 m1.snd.snd.snd], AV.agg [AV.int IntKind.i64 m2.fst, AV.int IntKind.i64 m2.snd.fst, AV.int IntKind.i64 m2.snd.snd.fst, AV.int IntKind.i64 m2.snd.snd.snd], AV.agg [AV.int IntKind.i64 m3.fst, AV.int IntKind.i64 m3.snd.fst, AV.int IntKind.i64 m3.snd.snd.fst, AV.int IntKind.i64 m3.snd.snd.snd]]), (4, AV.ptr 64 0 0 0), (5, AV.int IntKind.i64 i), (8, AV.int IntKind.i64 k)], bs := [(64, { v := 0, k := BK.box, fz := false, sz := 0, es := [AV.int IntKind.i64 0, AV.int IntKind.i64 m1.fst, AV.int IntKind.i64 m2.fst, AV.int IntKind.i64 m3.fst] })], df := [] })))
                (some (Sum.inl { fr := [(0, AV.slc x (List.map (mkV true [Lf.fi IntKind.u8, Lf.fi IntKind.u8]) l)), (3, AV.slc false [AV.agg [AV.int IntKind.i64 m1.fst, AV.int IntKind.i64 m1.snd.fst, AV.int IntKind.i64 m1.snd.snd.fst, AV.int IntKind.i64 m1.snd.snd.snd], AV.agg [AV.int IntKind.i64 m2.fst, AV.int IntKind.i64 m2.snd.fst, AV.int IntKind.i64 m2.snd.snd.fst, AV.int IntKind.i64 m2.snd.snd.snd], AV.agg [AV.int IntKind.i64 m3.fst, AV.int IntKind.i64 m3.snd.fst, AV.int IntKind.i64 m3.snd.snd.fst, AV.int IntKind.i64 m3.snd.snd.snd]]), (4, AV.ptr 64 0 0 0), (5, AV.int IntKind.i64 i), (8, AV.int IntKind.i64 k), (9, AV.int IntKind.i64 (IntKind.i64.wrap (s + 1)))], bs := [(64, { v := 0, k := BK.box, fz := false, sz := 0, es := [AV.int IntKind.i64 0, AV.int IntKind.i64 m1.fst, AV.int IntKind.i64 m2.fst, AV.int IntKind.i64 m3.fst] })], df := [] })))
              (some (Sum.inl { fr := [(0, AV.slc x (List.map (mkV true [Lf.fi IntKind.u8, Lf.fi IntKind.u8]) l)), (3, AV.slc false [AV.agg [AV.int IntKind.i64 m1.fst, AV.int IntKind.i64 m1.snd.fst, AV.int IntKind.i64 m1.snd.snd.fst, AV.int IntKind.i64 m1.snd.snd.snd], AV.agg [AV.int IntKind.i64 m2.fst, AV.int IntKind.i64 m2.snd.fst, AV.int IntKind.i64 m2.snd.snd.fst, AV.int IntKind.i64 m2.snd.snd.snd], AV.agg [AV.int IntKind.i64 m3.fst, AV.int IntKind.i64 m3.snd.fst, AV.int IntKind.i64 m3.snd.snd.fst, AV.int IntKind.i64 m3.snd.snd.snd]]), (4, AV.ptr 64 0 0 0), (5, AV.int IntKind.i64 i), (8, AV.int IntKind.i64 k), (9, AV.int IntKind.i64 (IntKind.i64.wrap (s + 1)))], bs := [(64, { v := 0, k := BK.box, fz := false, sz := 0, es := [AV.int IntKind.i64 0, AV.int IntKind.i64 m1.fst, AV.int IntKind.i64 m2.fst, AV.int IntKind.i64 m3.fst] })], df := [] })))))
        (bK (decide (k = 2))
          (bK (decide (s = m2.fst))
            (bK (!(isL d0.fst.snd d0.snd.fst d0.snd.snd).snd == decide (0 < s)) (some (Sum.inr (Ex.ret, { fr := [(0, AV.slc x (List.map (mkV true [Lf.fi IntKind.u8, Lf.fi IntKind.u8]) l)), (2, AV.bool false), (3, AV.slc false [AV.agg [AV.int IntKind.i64 m1.fst, AV.int IntKind.i64 m1.snd.fst, AV.int IntKind.i64 m1.snd.snd.fst, AV.int IntKind.i64 m1.snd.snd.snd], AV.agg [AV.int IntKind.i64 m2.fst, AV.int IntKind.i64 m2.snd.fst, AV.int IntKind.i64 m2.snd.snd.fst, AV.int IntKind.i64 m2.snd.snd.snd], AV.agg [AV.int IntKind.i64 m3.fst, AV.int IntKind.i64 m3.snd.fst, AV.int IntKind.i64 m3.snd.snd.fst, AV.int IntKind.i64 m3.snd.snd.snd]]), (4, AV.ptr 64 0 0 0), (5, AV.int IntKind.i64 i), (8, AV.int IntKind.i64 k)], bs := [(64, { v := 0, k := BK.box, fz := false, sz := 0, es := [AV.int IntKind.i64 0, AV.int IntKind.i64 m1.fst, AV.int IntKind.i64 m2.fst, AV.int IntKind.i64 m3.fst] })], df := [] })))
              (bK (isL d0.fst.snd d0.snd.fst d0.snd.snd).snd
                (bK (!decide ((isL d0.fst.snd d0.snd.fst d0.snd.snd).fst.fst = s)) (some (Sum.inr (Ex.ret, { fr := [(0, AV.slc x (List.map (mkV true [Lf.fi IntKind.u8, Lf.fi IntKind.u8]) l)), (2, AV.bool false), (3, AV.slc false [AV.agg [AV.int IntKind.i64 m1.fst, AV.int IntKind.i64 m1.snd.fst, AV.int IntKind.i64 m1.snd.snd.fst, AV.int IntKind.i64 m1.snd.snd.snd], AV.agg [AV.int IntKind.i64 m2.fst, AV.int IntKind.i64 m2.snd.fst, AV.int IntKind.i64 m2.snd.snd.fst, AV.int IntKind.i64 m2.snd.snd.snd], AV.agg [AV.int IntKind.i64 m3.fst, AV.int IntKind.i64 m3.snd.fst, AV.int IntKind.i64 m3.snd.snd.fst, AV.int IntKind.i64 m3.snd.snd.snd]]), (4, AV.ptr 64 0 0 0), (5, AV.int IntKind.i64 i), (8, AV.int IntKind.i64 k)], bs := [(64, { v := 0, k := BK.box, fz := false, sz := 0, es := [AV.int IntKind.i64 0, AV.int IntKind.i64 m1.fst, AV.int IntKind.i64 m2.fst, AV.int IntKind.i64 m3.fst] })], df := [] })))
                  (some (Sum.inl { fr := [(0, AV.slc x (List.map (mkV true [Lf.fi IntKind.u8, Lf.fi IntKind.u8]) l)), (3, AV.slc false [AV.agg [AV.int IntKind.i64 m1.fst, AV.int IntKind.i64 m1.snd.fst, AV.int IntKind.i64 m1.snd.snd.fst, AV.int IntKind.i64 m1.snd.snd.snd], AV.agg [AV.int IntKind.i64 m2.fst, AV.int IntKind.i64 m2.snd.fst, AV.int IntKind.i64 m2.snd.snd.fst, AV.int IntKind.i64 m2.snd.snd.snd], AV.agg [AV.int IntKind.i64 m3.fst, AV.int IntKind.i64 m3.snd.fst, AV.int IntKind.i64 m3.snd.snd.fst, AV.int IntKind.i64 m3.snd.snd.snd]]), (4, AV.ptr 64 0 0 0), (5, AV.int IntKind.i64 i), (8, AV.int IntKind.i64 k), (9, AV.int IntKind.i64 (IntKind.i64.wrap (s + 1)))], bs := [(64, { v := 0, k := BK.box, fz := false, sz := 0, es := [AV.int IntKind.i64 0, AV.int IntKind.i64 m1.fst, AV.int IntKind.i64 m2.fst, AV.int IntKind.i64 m3.fst] })], df := [] })))
                (some (Sum.inl { fr := [(0, AV.slc x (List.map (mkV true [Lf.fi IntKind.u8, Lf.fi IntKind.u8]) l)), (3, AV.slc false [AV.agg [AV.int IntKind.i64 m1.fst, AV.int IntKind.i64 m1.snd.fst, AV.int IntKind.i64 m1.snd.snd.fst, AV.int IntKind.i64 m1.snd.snd.snd], AV.agg [AV.int IntKind.i64 m2.fst, AV.int IntKind.i64 m2.snd.fst, AV.int IntKind.i64 m2.snd.snd.fst, AV.int IntKind.i64 m2.snd.snd.snd], AV.agg [AV.int IntKind.i64 m3.fst, AV.int IntKind.i64 m3.snd.fst, AV.int IntKind.i64 m3.snd.snd.fst, AV.int IntKind.i64 m3.snd.snd.snd]]), (4, AV.ptr 64 0 0 0), (5, AV.int IntKind.i64 i), (8, AV.int IntKind.i64 k), (9, AV.int IntKind.i64 (IntKind.i64.wrap (s + 1)))], bs := [(64, { v := 0, k := BK.box, fz := false, sz := 0, es := [AV.int IntKind.i64 0, AV.int IntKind.i64 m1.fst, AV.int IntKind.i64 m2.fst, AV.int IntKind.i64 m3.fst] })], df := [] }))))
            (bK (!(isL d0.fst.snd d0.snd.fst d0.snd.snd).snd == false) (some (Sum.inr (Ex.ret, { fr := [(0, AV.slc x (List.map (mkV true [Lf.fi IntKind.u8, Lf.fi IntKind.u8]) l)), (2, AV.bool false), (3, AV.slc false [AV.agg [AV.int IntKind.i64 m1.fst, AV.int IntKind.i64 m1.snd.fst, AV.int IntKind.i64 m1.snd.snd.fst, AV.int IntKind.i64 m1.snd.snd.snd], AV.agg [AV.int IntKind.i64 m2.fst, AV.int IntKind.i64 m2.snd.fst, AV.int IntKind.i64 m2.snd.snd.fst, AV.int IntKind.i64 m2.snd.snd.snd], AV.agg [AV.int IntKind.i64 m3.fst, AV.int IntKind.i64 m3.snd.fst, AV.int IntKind.i64 m3.snd.snd.fst, AV.int IntKind.i64 m3.snd.snd.snd]]), (4, AV.ptr 64 0 0 0), (5, AV.int IntKind.i64 i), (8, AV.int IntKind.i64 k)], bs := [(64, { v := 0, k := BK.box, fz := false, sz := 0, es := [AV.int IntKind.i64 0, AV.int IntKind.i64 m1.fst, AV.int IntKind.i64 m2.fst, AV.int IntKind.i64 m3.fst] })], df := [] })))
              (bK (isL d0.fst.snd d0.snd.fst d0.snd.snd).snd
                (bK (!decide ((isL d0.fst.snd d0.snd.fst d0.snd.snd).fst.fst = s)) (some (Sum.inr (Ex.ret, { fr := [(0, AV.slc x (List.map (mkV true [Lf.fi IntKind.u8, Lf.fi IntKind.u8]) l)), (2, AV.bool false), (3, AV.slc false [AV.agg [AV.int IntKind.i64 m1.fst, AV.int IntKind.i64 m1.snd.fst, AV.int IntKind.i64 m1.snd.snd.fst, AV.int IntKind.i64 m1.snd.snd.snd], AV.agg [AV.int IntKind.i64 m2.fst, AV.int IntKind.i64 m2.snd.fst, AV.int IntKind.i64 m2.snd.snd.fst, AV.int IntKind.i64 m2.snd.snd.snd], AV.agg [AV.int IntKind.i64 m3.fst, AV.int IntKind.i64 m3.snd.fst, AV.int IntKind.i64 m3.snd.snd.fst, AV.int IntKind.i64 m3.snd.snd.snd]]), (4, AV.ptr 64 0 0 0), (5, AV.int IntKind.i64 i), (8, AV.int IntKind.i64 k)], bs := [(64, { v := 0, k := BK.box, fz := false, sz := 0, es := [AV.int IntKind.i64 0, AV.int IntKind.i64 m1.fst, AV.int IntKind.i64 m2.fst, AV.int IntKind.i64 m3.fst] })], df := [] })))
                  (some (Sum.inl { fr := [(0, AV.slc x (List.map (mkV true [Lf.fi IntKind.u8, Lf.fi IntKind.u8]) l)), (3, AV.slc false [AV.agg [AV.int IntKind.i64 m1.fst, AV.int IntKind.i64 m1.snd.fst, AV.int IntKind.i64 m1.snd.snd.fst, AV.int IntKind.i64 m1.snd.snd.snd], AV.agg [AV.int IntKind.i64 m2.fst, AV.int IntKind.i64 m2.snd.fst, AV.int IntKind.i64 m2.snd.snd.fst, AV.int IntKind.i64 m2.snd.snd.snd], AV.agg [AV.int IntKind.i64 m3.fst, AV.int IntKind.i64 m3.snd.fst, AV.int IntKind.i64 m3.snd.snd.fst, AV.int IntKind.i64 m3.snd.snd.snd]]), (4, AV.ptr 64 0 0 0), (5, AV.int IntKind.i64 i), (8, AV.int IntKind.i64 k), (9, AV.int IntKind.i64 (IntKind.i64.wrap (s + 1)))], bs := [(64, { v := 0, k := BK.box, fz := false, sz := 0, es := [AV.int IntKind.i64 0, AV.int IntKind.i64 m1.fst, AV.int IntKind.i64 m2.fst, AV.int IntKind.i64 m3.fst] })], df := [] })))
                (some (Sum.inl { fr := [(0, AV.slc x (List.map (mkV true [Lf.fi IntKind.u8, Lf.fi IntKind.u8]) l)), (3, AV.slc false [AV.agg [AV.int IntKind.i64 m1.fst, AV.int IntKind.i64 m1.snd.fst, AV.int IntKind.i64 m1.snd.snd.fst, AV.int IntKind.i64 m1.snd.snd.snd], AV.agg [AV.int IntKind.i64 m2.fst, AV.int IntKind.i64 m2.snd.fst, AV.int IntKind.i64 m2.snd.snd.fst, AV.int IntKind.i64 m2.snd.snd.snd], AV.agg [AV.int IntKind.i64 m3.fst, AV.int IntKind.i64 m3.snd.fst, AV.int IntKind.i64 m3.snd.snd.fst, AV.int IntKind.i64 m3.snd.snd.snd]]), (4, AV.ptr 64 0 0 0), (5, AV.int IntKind.i64 i), (8, AV.int IntKind.i64 k), (9, AV.int IntKind.i64 (IntKind.i64.wrap (s + 1)))], bs := [(64, { v := 0, k := BK.box, fz := false, sz := 0, es := [AV.int IntKind.i64 0, AV.int IntKind.i64 m1.fst, AV.int IntKind.i64 m2.fst, AV.int IntKind.i64 m3.fst] })], df := [] })))))
          (bK (decide (k = 3))
            (bK (decide (s = m3.fst))
              (bK (!(isL d0.fst.snd d0.snd.fst d0.snd.snd).snd == decide (0 < s)) (some (Sum.inr (Ex.ret, { fr := [(0, AV.slc x (List.map (mkV true [Lf.fi IntKind.u8, Lf.fi IntKind.u8]) l)), (2, AV.bool false), (3, AV.slc false [AV.agg [AV.int IntKind.i64 m1.fst, AV.int IntKind.i64 m1.snd.fst, AV.int IntKind.i64 m1.snd.snd.fst, AV.int IntKind.i64 m1.snd.snd.snd], AV.agg [AV.int IntKind.i64 m2.fst, AV.int IntKind.i64 m2.snd.fst, AV.int IntKind.i64 m2.snd.snd.fst, AV.int IntKind.i64 m2.snd.snd.snd], AV.agg [AV.int IntKind.i64 m3.fst, AV.int IntKind.i64 m3.snd.fst, AV.int IntKind.i64 m3.snd.snd.fst, AV.int IntKind.i64 m3.snd.snd.snd]]), (4, AV.ptr 64 0 0 0), (5, AV.int IntKind.i64 i), (8, AV.int IntKind.i64 k)], bs := [(64, { v := 0, k := BK.box, fz := false, sz := 0, es := [AV.int IntKind.i64 0, AV.int IntKind.i64 m1.fst, AV.int IntKind.i64 m2.fst, AV.int IntKind.i64 m3.fst] })], df := [] })))
                (bK (isL d0.fst.snd d0.snd.fst d0.snd.snd).snd
                  (bK (!decide ((isL d0.fst.snd d0.snd.fst d0.snd.snd).fst.fst = s)) (some (Sum.inr (Ex.ret, { fr := [(0, AV.slc x (List.map (mkV true [Lf.fi IntKind.u8, Lf.fi IntKind.u8]) l)), (2, AV.bool false), (3, AV.slc false [AV.agg [AV.int IntKind.i64 m1.fst, AV.int IntKind.i64 m1.snd.fst, AV.int IntKind.i64 m1.snd.snd.fst, AV.int IntKind.i64 m1.snd.snd.snd], AV.agg [AV.int IntKind.i64 m2.fst, AV.int IntKind.i64 m2.snd.fst, AV.int IntKind.i64 m2.snd.snd.fst, AV.int IntKind.i64 m2.snd.snd.snd], AV.agg [AV.int IntKind.i64 m3.fst, AV.int IntKind.i64 m3.snd.fst, AV.int IntKind.i64 m3.snd.snd.fst, AV.int IntKind.i64 m3.snd.snd.snd]]), (4, AV.ptr 64 0 0 0), (5, AV.int IntKind.i64 i), (8, AV.int IntKind.i64 k)], bs := [(64, { v := 0, k := BK.box, fz := false, sz := 0, es := [AV.int IntKind.i64 0, AV.int IntKind.i64 m1.fst, AV.int IntKind.i64 m2.fst, AV.int IntKind.i64 m3.fst] })], df := [] })))
                    (some (Sum.inl { fr := [(0, AV.slc x (List.map (mkV true [Lf.fi IntKind.u8, Lf.fi IntKind.u8]) l)), (3, AV.slc false [AV.agg [AV.int IntKind.i64 m1.fst, AV.int IntKind.i64 m1.snd.fst, AV.int IntKind.i64 m1.snd.snd.fst, AV.int IntKind.i64 m1.snd.snd.snd], AV.agg [AV.int IntKind.i64 m2.fst, AV.int IntKind.i64 m2.snd.fst, AV.int IntKind.i64 m2.snd.snd.fst, AV.int IntKind.i64 m2.snd.snd.snd], AV.agg [AV.int IntKind.i64 m3.fst, AV.int IntKind.i64 m3.snd.fst, AV.int IntKind.i64 m3.snd.snd.fst, AV.int IntKind.i64 m3.snd.snd.snd]]), (4, AV.ptr 64 0 0 0), (5, AV.int IntKind.i64 i), (8, AV.int IntKind.i64 k), (9, AV.int IntKind.i64 (IntKind.i64.wrap (s + 1)))], bs := [(64, { v := 0, k := BK.box, fz := false, sz := 0, es := [AV.int IntKind.i64 0, AV.int IntKind.i64 m1.fst, AV.int IntKind.i64 m2.fst, AV.int IntKind.i64 m3.fst] })], df := [] })))
                  (some (Sum.inl { fr := [(0, AV.slc x (List.map (mkV true [Lf.fi IntKind.u8, Lf.fi IntKind.u8]) l)), (3, AV.slc false [AV.agg [AV.int IntKind.i64 m1.fst, AV.int IntKind.i64 m1.snd.fst, AV.int IntKind.i64 m1.snd.snd.fst, AV.int IntKind.i64 m1.snd.snd.snd], AV.agg [AV.int IntKind.i64 m2.fst, AV.int IntKind.i64 m2.snd.fst, AV.int IntKind.i64 m2.snd.snd.fst, AV.int IntKind.i64 m2.snd.snd.snd], AV.agg [AV.int IntKind.i64 m3.fst, AV.int IntKind.i64 m3.snd.fst, AV.int IntKind.i64 m3.snd.snd.fst, AV.int IntKind.i64 m3.snd.snd.snd]]), (4, AV.ptr 64 0 0 0), (5, AV.int IntKind.i64 i), (8, AV.int IntKind.i64 k), (9, AV.int IntKind.i64 (IntKind.i64.wrap (s + 1)))], bs := [(64, { v := 0, k := BK.box, fz := false, sz := 0, es := [AV.int IntKind.i64 0, AV.int IntKind.i64 m1.fst, AV.int IntKind.i64 m2.fst, AV.int IntKind.i64 m3.fst] })], df := [] }))))
              (bK (!(isL d0.fst.snd d0.snd.fst d0.snd.snd).snd == false) (some (Sum.inr (Ex.ret, { fr := [(0, AV.slc x (List.map (mkV true [Lf.fi IntKind.u8, Lf.fi IntKind.u8]) l)), (2, AV.bool false), (3, AV.slc false [AV.agg [AV.int IntKind.i64 m1.fst, AV.int IntKind.i64 m1.snd.fst, AV.int IntKind.i64 m1.snd.snd.fst, AV.int IntKind.i64 m1.snd.snd.snd], AV.agg [AV.int IntKind.i64 m2.fst, AV.int IntKind.i64 m2.snd.fst, AV.int IntKind.i64 m2.snd.snd.fst, AV.int IntKind.i64 m2.snd.snd.snd], AV.agg [AV.int IntKind.i64 m3.fst, AV.int IntKind.i64 m3.snd.fst, AV.int IntKind.i64 m3.snd.snd.fst, AV.int IntKind.i64 m3.snd.snd.snd]]), (4, AV.ptr 64 0 0 0), (5, AV.int IntKind.i64 i), (8, AV.int IntKind.i64 k)], bs := [(64, { v := 0, k := BK.box, fz := false, sz := 0, es := [AV.int IntKind.i64 0, AV.int IntKind.i64 m1.fst, AV.int IntKind.i64 m2.fst, AV.int IntKind.i64 m3.fst] })], df := [] })))
                (bK (isL d0.fst.snd d0.snd.fst d0.snd.snd).snd
                  (bK (!decide ((isL d0.fst.snd d0.snd.fst d0.snd.snd).fst.fst = s)) (some (Sum.inr (Ex.ret, { fr := [(0, AV.slc x (List.map (mkV true [Lf.fi IntKind.u8, Lf.fi IntKind.u8]) l)), (2, AV.bool false), (3, AV.slc false [AV.agg [AV.int IntKind.i64 m1.fst, AV.int IntKind.i64 m1.snd.fst, AV.int IntKind.i64 m1.snd.snd.fst, AV.int IntKind.i64 m1.snd.snd.snd], AV.agg [AV.int IntKind.i64 m2.fst, AV.int IntKind.i64 m2.snd.fst, AV.int IntKind.i64 m2.snd.snd.fst, AV.int IntKind.i64 m2.snd.snd.snd], AV.agg [AV.int IntKind.i64 m3.fst, AV.int IntKind.i64 m3.snd.fst, AV.int IntKind.i64 m3.snd.snd.fst, AV.int IntKind.i64 m3.snd.snd.snd]]), (4, AV.ptr 64 0 0 0), (5, AV.int IntKind.i64 i), (8, AV.int IntKind.i64 k)], bs := [(64, { v := 0, k := BK.box, fz := false, sz := 0, es := [AV.int IntKind.i64 0, AV.int IntKind.i64 m1.fst, AV.int IntKind.i64 m2.fst, AV.int IntKind.i64 m3.fst] })], df := [] })))
                    (some (Sum.inl { fr := [(0, AV.slc x (List.map (mkV true [Lf.fi IntKind.u8, Lf.fi IntKind.u8]) l)), (3, AV.slc false [AV.agg [AV.int IntKind.i64 m1.fst, AV.int IntKind.i64 m1.snd.fst, AV.int IntKind.i64 m1.snd.snd.fst, AV.int IntKind.i64 m1.snd.snd.snd], AV.agg [AV.int IntKind.i64 m2.fst, AV.int IntKind.i64 m2.snd.fst, AV.int IntKind.i64 m2.snd.snd.fst, AV.int IntKind.i64 m2.snd.snd.snd], AV.agg [AV.int IntKind.i64 m3.fst, AV.int IntKind.i64 m3.snd.fst, AV.int IntKind.i64 m3.snd.snd.fst, AV.int IntKind.i64 m3.snd.snd.snd]]), (4, AV.ptr 64 0 0 0), (5, AV.int IntKind.i64 i), (8, AV.int IntKind.i64 k), (9, AV.int IntKind.i64 (IntKind.i64.wrap (s + 1)))], bs := [(64, { v := 0, k := BK.box, fz := false, sz := 0, es := [AV.int IntKind.i64 0, AV.int IntKind.i64 m1.fst, AV.int IntKind.i64 m2.fst, AV.int IntKind.i64 m3.fst] })], df := [] })))
                  (some (Sum.inl { fr := [(0, AV.slc x (List.map (mkV true [Lf.fi IntKind.u8, Lf.fi IntKind.u8]) l)), (3, AV.slc false [AV.agg [AV.int IntKind.i64 m1.fst, AV.int IntKind.i64 m1.snd.fst, AV.int IntKind.i64 m1.snd.snd.fst, AV.int IntKind.i64 m1.snd.snd.snd], AV.agg [AV.int IntKind.i64 m2.fst, AV.int IntKind.i64 m2.snd.fst, AV.int IntKind.i64 m2.snd.snd.fst, AV.int IntKind.i64 m2.snd.snd.snd], AV.agg [AV.int IntKind.i64 m3.fst, AV.int IntKind.i64 m3.snd.fst, AV.int IntKind.i64 m3.snd.snd.fst, AV.int IntKind.i64 m3.snd.snd.snd]]), (4, AV.ptr 64 0 0 0), (5, AV.int IntKind.i64 i), (8, AV.int IntKind.i64 k), (9, AV.int IntKind.i64 (IntKind.i64.wrap (s + 1)))], bs := [(64, { v := 0, k := BK.box, fz := false, sz := 0, es := [AV.int IntKind.i64 0, AV.int IntKind.i64 m1.fst, AV.int IntKind.i64 m2.fst, AV.int IntKind.i64 m3.fst] })], df := [] })))))
            none))))
  (some (Sum.inr (Ex.exit 4, { fr := [(0, AV.slc x (List.map (mkV true [Lf.fi IntKind.u8, Lf.fi IntKind.u8]) l)), (3, AV.slc false [AV.agg [AV.int IntKind.i64 m1.fst, AV.int IntKind.i64 m1.snd.fst, AV.int IntKind.i64 m1.snd.snd.fst, AV.int IntKind.i64 m1.snd.snd.snd], AV.agg [AV.int IntKind.i64 m2.fst, AV.int IntKind.i64 m2.snd.fst, AV.int IntKind.i64 m2.snd.snd.fst, AV.int IntKind.i64 m2.snd.snd.snd], AV.agg [AV.int IntKind.i64 m3.fst, AV.int IntKind.i64 m3.snd.fst, AV.int IntKind.i64 m3.snd.snd.fst, AV.int IntKind.i64 m3.snd.snd.snd]]), (4, AV.ptr 64 0 0 0), (5, AV.int IntKind.i64 i), (8, AV.int IntKind.i64 k)], bs := [(64, { v := 0, k := BK.box, fz := false, sz := 0, es := [AV.int IntKind.i64 0, AV.int IntKind.i64 m1.fst, AV.int IntKind.i64 m2.fst, AV.int IntKind.i64 m3.fst] })], df := [] })))
theorem ms_s_w (x : Bool) (l : List B2) (m1 : Mark_T) (m2 : Mark_T) (m3 : Mark_T) (i : Int) (k : Int) (s : Int) : ms_s x l m1 m2 m3 i k s = ms_s_r x l m1 m2 m3 i k s := by kernel_rfl

theorem loops4 : (loopsOf 0 (codeOf Try.prog 4)).map (·.1) = [0, 2, 4] := by kernel_rfl
theorem one4 : OneLoops Try.prog 4 := by unfold OneLoops; rw [loops4]; decide
theorem at4_0 : At 0 (codeOf Try.prog 4) 0 (.loop (bodyAt Try.prog 4 0)) := at_body one4 (by rw [loops4]; decide)
theorem at4_2 : At 0 (codeOf Try.prog 4) 2 (.loop (bodyAt Try.prog 4 2)) := at_body one4 (by rw [loops4]; decide)
theorem at4_4 : At 0 (codeOf Try.prog 4) 4 (.loop (bodyAt Try.prog 4 4)) := at_body one4 (by rw [loops4]; decide)
theorem ms_core {R : Type} {y : Mark_T × Bool} {m : Mark_T} {s : Int} {ret cont : Option R} (h : y = if 1 ≤ s ∧ m.1 = s then (m, true) else ((0, 0, 0, 0), false)) :
    bK (decide (s = m.1)) (bK (!(y.2 == decide (0 < s))) ret (bK y.2 (bK (!decide (y.1.1 = s)) ret cont) cont)) (bK (!(y.2 == false)) ret (bK y.2 (bK (!decide (y.1.1 = s)) ret cont) cont)) = cont := by
  subst h
  by_cases h1 : m.1 = s
  · by_cases h2 : 1 ≤ s
    · have h3 : 0 < s := by omega
      rw [bK_pos (by simp [h1]), if_pos ⟨h2, h1⟩, bK_neg (by simp [h3]), bK_pos rfl, bK_neg (by simp [h1])]
    · have h3 : ¬ 0 < s := by omega
      rw [bK_pos (by simp [h1]), if_neg (fun hh => h2 hh.1), bK_neg (by simp [h3]), bK_neg rfl]
  · rw [bK_neg (by simp [fun hh => h1 (Eq.symm hh)]; exact fun hh => h1 hh.symm), if_neg (fun hh => h1 hh.2), bK_neg (by simp), bK_neg rfl]
theorem isL1 (m1 m2 m3 : Mark_T) (s : Int) : isL [m1, m2, m3] 1 s = if 1 ≤ s ∧ m1.1 = s then (m1, true) else ((0, 0, 0, 0), false) := by
  unfold isL
  by_cases h : 1 ≤ s ∧ m1.1 = s
  · rw [if_pos h]; exact if_pos ⟨by decide, by simp, h.1, h.2⟩
  · rw [if_neg h]; exact if_neg (fun hh => h ⟨hh.2.2.1, hh.2.2.2⟩)
theorem isL2 (m1 m2 m3 : Mark_T) (s : Int) : isL [m1, m2, m3] 2 s = if 1 ≤ s ∧ m2.1 = s then (m2, true) else ((0, 0, 0, 0), false) := by
  unfold isL
  by_cases h : 1 ≤ s ∧ m2.1 = s
  · rw [if_pos h]; exact if_pos ⟨by decide, by simp, h.1, h.2⟩
  · rw [if_neg h]; exact if_neg (fun hh => h ⟨hh.2.2.1, hh.2.2.2⟩)
theorem isL3 (m1 m2 m3 : Mark_T) (s : Int) : isL [m1, m2, m3] 3 s = if 1 ≤ s ∧ m3.1 = s then (m3, true) else ((0, 0, 0, 0), false) := by
  unfold isL
  by_cases h : 1 ≤ s ∧ m3.1 = s
  · rw [if_pos h]; exact if_pos ⟨by decide, by simp, h.1, h.2⟩
  · rw [if_neg h]; exact if_neg (fun hh => h ⟨hh.2.2.1, hh.2.2.2⟩)
theorem ms_run (x : Bool) (l : List B2) (m1 m2 m3 : Mark_T) (i k : Int) (hk : k = 1 ∨ k = 2 ∨ k = 3) : ∀ (j s : Nat), s + j = 20 → ∀ (m : Nat), j < m →
    Runs' Try.prog cfg PK7 4 4 m (msHd x l m1 m2 m3 i k s) (.exit 4, mkHd x l m1 m2 m3 i k)
  | 0, s, hs, m + 1, hm => by
    refine Runs'.done (lp := LP0) LPok.none at4_4 ((ms_s_w x l m1 m2 m3 i k s).trans ?_)
    unfold ms_s_r
    rw [bK_neg (by simp; omega)]
    rfl
  | j + 1, s, hs, m + 1, hm => by
    refine Runs'.step (lp := LP0) LPok.none at4_4 ((ms_s_w x l m1 m2 m3 i k s).trans ?_) (ms_run x l m1 m2 m3 i k hk j (s + 1) (by omega) m (by omega))
    unfold ms_s_r
    rw [bK_pos (by simp; omega)]
    have e0 : IntKind.i64.wrap ((s : Int) + 1) = ((s + 1 : Nat) : Int) := by rw [w64 (by omega) (by omega)]; omega
    refine oK_fsq (Q := fun z => z = _) isMS ((false, [m1, m2, m3]), k, (s : Int)) (by show (3 : Nat) ≤ 100000; decide) ?_
    rw [e0]
    rcases hk with rfl | rfl | rfl
    · rw [bK_neg (by decide), bK_pos (by decide)]
      exact ms_core (isL1 m1 m2 m3 s)
    · rw [bK_neg (by decide), bK_neg (by decide), bK_pos (by decide)]
      exact ms_core (isL2 m1 m2 m3 s)
    · rw [bK_neg (by decide), bK_neg (by decide), bK_neg (by decide), bK_pos (by decide)]
      exact ms_core (isL3 m1 m2 m3 s)
abbrev MsD : Type := Bool × List B2 × Mark_T × Mark_T × Mark_T × Int × Int
def msH (d : MsD) : St := msHd d.1 d.2.1 d.2.2.1 d.2.2.2.1 d.2.2.2.2.1 d.2.2.2.2.2.1 d.2.2.2.2.2.2 0
noncomputable def msL : LP := LP.of (D := MsD) msH (fun d => d.2.2.2.2.2.2 = 1 ∨ d.2.2.2.2.2.2 = 2 ∨ d.2.2.2.2.2.2 = 3) fun d => .leaf (.exit 4, mkHd d.1 d.2.1 d.2.2.1 d.2.2.2.1 d.2.2.2.2.1 d.2.2.2.2.2.1 d.2.2.2.2.2.2)
noncomputable def LPq : LPs := LPs.add LP0 4 4 msL
theorem LPq_ok : LPok Try.prog cfg PK7 LPq 4 :=
  LPok.addH LPok.none one4 fun d h => ms_run d.1 d.2.1 d.2.2.1 d.2.2.2.1 d.2.2.2.2.1 d.2.2.2.2.2.1 d.2.2.2.2.2.2 h 20 0 rfl rounds (by simp [rounds])
theorem msH_inj (d d' : MsD) (h : msH d = msH d') : d = d' := by
  obtain ⟨x, l, m1, m2, m3, i, k⟩ := d
  obtain ⟨x', l', m1', m2', m3', i', k'⟩ := d'
  simp only [msH, msHd, lastB, boxB, St.mk.injEq, List.cons.injEq, Prod.mk.injEq, AV.slc.injEq, AV.int.injEq, Blk.mk.injEq, and_true, true_and] at h
  obtain ⟨⟨⟨h1, h2⟩, h3, h4, h5⟩, h6⟩ := h
  have h7 := map_inj (fs := Mark_tfs) rfl h3
  simp only [List.cons.injEq, and_true] at h7
  rw [h1, map_inj (fs := B2_fs) rfl h2, h4, h5, h7.1, h7.2.1, h7.2.2]
noncomputable def mk_s (x : Bool) (l : List B2) (m1 m2 m3 : Mark_T) (i k : Int) : Option (St ⊕ (Ex × St)) := stepK Try.prog cfg PK7 LPq 4 2 (mkHd x l m1 m2 m3 i k)
noncomputable def mk_s_r (x : Bool) (l : List B2) (m1 : Mark_T) (m2 : Mark_T) (m3 : Mark_T) (i : Int) (k : Int) : Option (St ⊕ Ex × St) :=
  bK (decide (k ≤ 3))
  (oK (msL.dec { fr := [(0, AV.slc x (List.map (mkV true [Lf.fi IntKind.u8, Lf.fi IntKind.u8]) l)), (3, AV.slc false [AV.agg [AV.int IntKind.i64 m1.fst, AV.int IntKind.i64 m1.snd.fst, AV.int IntKind.i64 m1.snd.snd.fst, AV.int IntKind.i64 m1.snd.snd.snd], AV.agg [AV.int IntKind.i64 m2.fst, AV.int IntKind.i64 m2.snd.fst, AV.int IntKind.i64 m2.snd.snd.fst, AV.int IntKind.i64 m2.snd.snd.snd], AV.agg [AV.int IntKind.i64 m3.fst, AV.int IntKind.i64 m3.snd.fst, AV.int IntKind.i64 m3.snd.snd.fst, AV.int IntKind.i64 m3.snd.snd.snd]]), (4, AV.ptr 64 0 0 0), (5, AV.int IntKind.i64 i), (8, AV.int IntKind.i64 k), (9, AV.int IntKind.i64 0)], bs := [(64, { v := 0, k := BK.box, fz := false, sz := 0, es := [AV.int IntKind.i64 0, AV.int IntKind.i64 m1.fst, AV.int IntKind.i64 m2.fst, AV.int IntKind.i64 m3.fst] })], df := [] }) fun (d0 : Bool × List (Int × Int) × (Int × Int × Int × Int) × (Int × Int × Int × Int) × (Int × Int × Int × Int) × Int × Int) =>
    some (Sum.inl { fr := [(0, AV.slc d0.fst (List.map (mkV true [Lf.fi IntKind.u8, Lf.fi IntKind.u8]) d0.snd.fst)), (3, AV.slc false [AV.agg [AV.int IntKind.i64 d0.snd.snd.fst.fst, AV.int IntKind.i64 d0.snd.snd.fst.snd.fst, AV.int IntKind.i64 d0.snd.snd.fst.snd.snd.fst, AV.int IntKind.i64 d0.snd.snd.fst.snd.snd.snd], AV.agg [AV.int IntKind.i64 d0.snd.snd.snd.fst.fst, AV.int IntKind.i64 d0.snd.snd.snd.fst.snd.fst, AV.int IntKind.i64 d0.snd.snd.snd.fst.snd.snd.fst, AV.int IntKind.i64 d0.snd.snd.snd.fst.snd.snd.snd], AV.agg [AV.int IntKind.i64 d0.snd.snd.snd.snd.fst.fst, AV.int IntKind.i64 d0.snd.snd.snd.snd.fst.snd.fst, AV.int IntKind.i64 d0.snd.snd.snd.snd.fst.snd.snd.fst, AV.int IntKind.i64 d0.snd.snd.snd.snd.fst.snd.snd.snd]]), (4, AV.ptr 64 0 0 0), (5, AV.int IntKind.i64 d0.snd.snd.snd.snd.snd.fst), (8, AV.int IntKind.i64 (IntKind.i64.wrap (d0.snd.snd.snd.snd.snd.snd + 1)))], bs := [(64, { v := 0, k := BK.box, fz := false, sz := 0, es := [AV.int IntKind.i64 0, AV.int IntKind.i64 d0.snd.snd.fst.fst, AV.int IntKind.i64 d0.snd.snd.snd.fst.fst, AV.int IntKind.i64 d0.snd.snd.snd.snd.fst.fst] })], df := [] }))
  (some (Sum.inr (Ex.exit 2, { fr := [(0, AV.slc x (List.map (mkV true [Lf.fi IntKind.u8, Lf.fi IntKind.u8]) l)), (3, AV.slc false [AV.agg [AV.int IntKind.i64 m1.fst, AV.int IntKind.i64 m1.snd.fst, AV.int IntKind.i64 m1.snd.snd.fst, AV.int IntKind.i64 m1.snd.snd.snd], AV.agg [AV.int IntKind.i64 m2.fst, AV.int IntKind.i64 m2.snd.fst, AV.int IntKind.i64 m2.snd.snd.fst, AV.int IntKind.i64 m2.snd.snd.snd], AV.agg [AV.int IntKind.i64 m3.fst, AV.int IntKind.i64 m3.snd.fst, AV.int IntKind.i64 m3.snd.snd.fst, AV.int IntKind.i64 m3.snd.snd.snd]]), (4, AV.ptr 64 0 0 0), (5, AV.int IntKind.i64 i)], bs := [(64, { v := 0, k := BK.box, fz := false, sz := 0, es := [AV.int IntKind.i64 0, AV.int IntKind.i64 m1.fst, AV.int IntKind.i64 m2.fst, AV.int IntKind.i64 m3.fst] })], df := [] })))
theorem mk_s_w (x : Bool) (l : List B2) (m1 : Mark_T) (m2 : Mark_T) (m3 : Mark_T) (i : Int) (k : Int) : mk_s x l m1 m2 m3 i k = mk_s_r x l m1 m2 m3 i k := by kernel_rfl

theorem mk_run (x : Bool) (l : List B2) (m1 m2 m3 : Mark_T) (i : Int) : ∀ (j k : Nat), k + j = 4 → 1 ≤ k → ∀ (m : Nat), j < m →
    Runs' Try.prog cfg PK7 4 2 m (mkHd x l m1 m2 m3 i k) (.exit 2, mlHd x l m1 m2 m3 i)
  | 0, k, hk, hk1, m + 1, hm => by
    refine Runs'.done (lp := LPq) LPq_ok at4_2 ((mk_s_w x l m1 m2 m3 i k).trans ?_)
    unfold mk_s_r
    rw [bK_neg (by simp; omega)]
    rfl
  | j + 1, k, hk, hk1, m + 1, hm => by
    refine Runs'.step (lp := LPq) LPq_ok at4_2 ((mk_s_w x l m1 m2 m3 i k).trans ?_) (mk_run x l m1 m2 m3 i j (k + 1) (by omega) (by omega) m (by omega))
    unfold mk_s_r
    rw [bK_pos (by simp; omega)]
    refine oK_lpq (Q := fun z => z = _) msH_inj (x, l, m1, m2, m3, i, (k : Int)) (show (k : Int) = 1 ∨ (k : Int) = 2 ∨ (k : Int) = 3 by omega) ?_
    have e0 : IntKind.i64.wrap ((k : Int) + 1) = ((k + 1 : Nat) : Int) := by rw [w64 (by omega) (by omega)]; omega
    rw [e0]
    rfl
abbrev MkD : Type := Bool × List B2 × Mark_T × Mark_T × Mark_T × Int
def mkH (d : MkD) : St := mkHd d.1 d.2.1 d.2.2.1 d.2.2.2.1 d.2.2.2.2.1 d.2.2.2.2.2 1
noncomputable def mkL : LP := LP.of (D := MkD) mkH (fun _ => True) fun d => .leaf (.exit 2, mlHd d.1 d.2.1 d.2.2.1 d.2.2.2.1 d.2.2.2.2.1 d.2.2.2.2.2)
noncomputable def LPk : LPs := LPs.add LPq 4 2 mkL
theorem LPk_ok : LPok Try.prog cfg PK7 LPk 4 :=
  LPok.addH LPq_ok one4 fun d _ => mk_run d.1 d.2.1 d.2.2.1 d.2.2.2.1 d.2.2.2.2.1 d.2.2.2.2.2 3 1 rfl (by decide) rounds (by simp [rounds])
theorem mkH_inj (d d' : MkD) (h : mkH d = mkH d') : d = d' := by
  obtain ⟨x, l, m1, m2, m3, i⟩ := d
  obtain ⟨x', l', m1', m2', m3', i'⟩ := d'
  simp only [mkH, mkHd, lastB, boxB, St.mk.injEq, List.cons.injEq, Prod.mk.injEq, AV.slc.injEq, AV.int.injEq, Blk.mk.injEq, and_true, true_and] at h
  obtain ⟨⟨⟨h1, h2⟩, h3, h4⟩, h6⟩ := h
  have h7 := map_inj (fs := Mark_tfs) rfl h3
  simp only [List.cons.injEq, and_true] at h7
  rw [h1, map_inj (fs := B2_fs) rfl h2, h4, h7.1, h7.2.1, h7.2.2]
noncomputable def ml_s (x : Bool) (l : List B2) (m1 m2 m3 : Mark_T) (i : Int) : Option (St ⊕ (Ex × St)) := stepK Try.prog cfg PK7 LPk 4 0 (mlHd x l m1 m2 m3 i)
noncomputable def ml_s_r (x : Bool) (l : List B2) (m1 : Mark_T) (m2 : Mark_T) (m3 : Mark_T) (i : Int) : Option (St ⊕ Ex × St) :=
  bK (decide (i < (↑(List.map (mkV true [Lf.fi IntKind.u8, Lf.fi IntKind.u8]) l).length : Int)))
  (oK (elemAt true [Lf.fi IntKind.u8, Lf.fi IntKind.u8] (List.map (mkV true [Lf.fi IntKind.u8, Lf.fi IntKind.u8]) l) i) fun (d0 : Int × Int) =>
    bK (decide (IntKind.i64.wrap (1 + IntKind.i64.wrap (Int.tmod d0.fst 3)) = 0))
      (oK (elemAt true [Lf.fi IntKind.u8, Lf.fi IntKind.u8] (List.map (mkV true [Lf.fi IntKind.u8, Lf.fi IntKind.u8]) l) i) fun (d1 : Int × Int) =>
        oK (putMS.dec [AV.slc false [AV.agg [AV.int IntKind.i64 m1.fst, AV.int IntKind.i64 m1.snd.fst, AV.int IntKind.i64 m1.snd.snd.fst, AV.int IntKind.i64 m1.snd.snd.snd], AV.agg [AV.int IntKind.i64 m2.fst, AV.int IntKind.i64 m2.snd.fst, AV.int IntKind.i64 m2.snd.snd.fst, AV.int IntKind.i64 m2.snd.snd.snd], AV.agg [AV.int IntKind.i64 m3.fst, AV.int IntKind.i64 m3.snd.fst, AV.int IntKind.i64 m3.snd.snd.fst, AV.int IntKind.i64 m3.snd.snd.snd]], AV.int IntKind.i64 0, AV.agg [AV.int IntKind.i64 (IntKind.i64.wrap (Int.tmod d1.snd 20)), AV.int IntKind.i64 0, AV.int IntKind.i64 0, AV.int IntKind.i64 (IntKind.i64.wrap (i + 1))]] []) fun (d2 : (Bool × List (Int × Int × Int × Int)) × Int × Int × Int × Int × Int) =>
          oK (mkL.dec { fr := [(0, AV.slc x (List.map (mkV true [Lf.fi IntKind.u8, Lf.fi IntKind.u8]) l)), (3, AV.slc d2.fst.snd.isEmpty (List.map (mkV true Mark_tfs) (putL d2.fst.snd d2.snd.fst d2.snd.snd))), (4, AV.ptr 64 0 0 0), (5, AV.int IntKind.i64 i), (8, AV.int IntKind.i64 1)], bs := [(64, { v := 0, k := BK.box, fz := false, sz := 0, es := [AV.int IntKind.i64 (Decidable.rec (fun (h : ¬IntKind.i64.wrap (Int.tmod d1.snd 20) > 0) => 0) (fun (h : IntKind.i64.wrap (Int.tmod d1.snd 20) > 0) => IntKind.i64.wrap (Int.tmod d1.snd 20)) (Int.decLt 0 (IntKind.i64.wrap (Int.tmod d1.snd 20)))), AV.int IntKind.i64 m1.fst, AV.int IntKind.i64 m2.fst, AV.int IntKind.i64 m3.fst] })], df := [] }) fun (d3 : Bool × List (Int × Int) × (Int × Int × Int × Int) × (Int × Int × Int × Int) × (Int × Int × Int × Int) × Int) =>
            some (Sum.inl { fr := [(0, AV.slc d3.fst (List.map (mkV true [Lf.fi IntKind.u8, Lf.fi IntKind.u8]) d3.snd.fst)), (3, AV.slc false [AV.agg [AV.int IntKind.i64 d3.snd.snd.fst.fst, AV.int IntKind.i64 d3.snd.snd.fst.snd.fst, AV.int IntKind.i64 d3.snd.snd.fst.snd.snd.fst, AV.int IntKind.i64 d3.snd.snd.fst.snd.snd.snd], AV.agg [AV.int IntKind.i64 d3.snd.snd.snd.fst.fst, AV.int IntKind.i64 d3.snd.snd.snd.fst.snd.fst, AV.int IntKind.i64 d3.snd.snd.snd.fst.snd.snd.fst, AV.int IntKind.i64 d3.snd.snd.snd.fst.snd.snd.snd], AV.agg [AV.int IntKind.i64 d3.snd.snd.snd.snd.fst.fst, AV.int IntKind.i64 d3.snd.snd.snd.snd.fst.snd.fst, AV.int IntKind.i64 d3.snd.snd.snd.snd.fst.snd.snd.fst, AV.int IntKind.i64 d3.snd.snd.snd.snd.fst.snd.snd.snd]]), (4, AV.ptr 64 0 0 0), (5, AV.int IntKind.i64 (IntKind.i64.wrap (d3.snd.snd.snd.snd.snd + 1)))], bs := [(64, { v := 0, k := BK.box, fz := false, sz := 0, es := [AV.int IntKind.i64 0, AV.int IntKind.i64 d3.snd.snd.fst.fst, AV.int IntKind.i64 d3.snd.snd.snd.fst.fst, AV.int IntKind.i64 d3.snd.snd.snd.snd.fst.fst] })], df := [] }))
      (bK (decide (IntKind.i64.wrap (1 + IntKind.i64.wrap (Int.tmod d0.fst 3)) = 1))
        (oK (elemAt true [Lf.fi IntKind.u8, Lf.fi IntKind.u8] (List.map (mkV true [Lf.fi IntKind.u8, Lf.fi IntKind.u8]) l) i) fun (d4 : Int × Int) =>
          oK (putMS.dec [AV.slc false [AV.agg [AV.int IntKind.i64 m1.fst, AV.int IntKind.i64 m1.snd.fst, AV.int IntKind.i64 m1.snd.snd.fst, AV.int IntKind.i64 m1.snd.snd.snd], AV.agg [AV.int IntKind.i64 m2.fst, AV.int IntKind.i64 m2.snd.fst, AV.int IntKind.i64 m2.snd.snd.fst, AV.int IntKind.i64 m2.snd.snd.snd], AV.agg [AV.int IntKind.i64 m3.fst, AV.int IntKind.i64 m3.snd.fst, AV.int IntKind.i64 m3.snd.snd.fst, AV.int IntKind.i64 m3.snd.snd.snd]], AV.int IntKind.i64 1, AV.agg [AV.int IntKind.i64 (IntKind.i64.wrap (Int.tmod d4.snd 20)), AV.int IntKind.i64 0, AV.int IntKind.i64 0, AV.int IntKind.i64 (IntKind.i64.wrap (i + 1))]] []) fun (d5 : (Bool × List (Int × Int × Int × Int)) × Int × Int × Int × Int × Int) =>
            oK (mkL.dec { fr := [(0, AV.slc x (List.map (mkV true [Lf.fi IntKind.u8, Lf.fi IntKind.u8]) l)), (3, AV.slc d5.fst.snd.isEmpty (List.map (mkV true Mark_tfs) (putL d5.fst.snd d5.snd.fst d5.snd.snd))), (4, AV.ptr 64 0 0 0), (5, AV.int IntKind.i64 i), (8, AV.int IntKind.i64 1)], bs := [(64, { v := 0, k := BK.box, fz := false, sz := 0, es := [AV.int IntKind.i64 0, AV.int IntKind.i64 (Decidable.rec (fun (h : ¬IntKind.i64.wrap (Int.tmod d4.snd 20) > m1.fst) => m1.fst) (fun (h : IntKind.i64.wrap (Int.tmod d4.snd 20) > m1.fst) => IntKind.i64.wrap (Int.tmod d4.snd 20)) (m1.fst.decLt (IntKind.i64.wrap (Int.tmod d4.snd 20)))), AV.int IntKind.i64 m2.fst, AV.int IntKind.i64 m3.fst] })], df := [] }) fun (d6 : Bool × List (Int × Int) × (Int × Int × Int × Int) × (Int × Int × Int × Int) × (Int × Int × Int × Int) × Int) =>
              some (Sum.inl { fr := [(0, AV.slc d6.fst (List.map (mkV true [Lf.fi IntKind.u8, Lf.fi IntKind.u8]) d6.snd.fst)), (3, AV.slc false [AV.agg [AV.int IntKind.i64 d6.snd.snd.fst.fst, AV.int IntKind.i64 d6.snd.snd.fst.snd.fst, AV.int IntKind.i64 d6.snd.snd.fst.snd.snd.fst, AV.int IntKind.i64 d6.snd.snd.fst.snd.snd.snd], AV.agg [AV.int IntKind.i64 d6.snd.snd.snd.fst.fst, AV.int IntKind.i64 d6.snd.snd.snd.fst.snd.fst, AV.int IntKind.i64 d6.snd.snd.snd.fst.snd.snd.fst, AV.int IntKind.i64 d6.snd.snd.snd.fst.snd.snd.snd], AV.agg [AV.int IntKind.i64 d6.snd.snd.snd.snd.fst.fst, AV.int IntKind.i64 d6.snd.snd.snd.snd.fst.snd.fst, AV.int IntKind.i64 d6.snd.snd.snd.snd.fst.snd.snd.fst, AV.int IntKind.i64 d6.snd.snd.snd.snd.fst.snd.snd.snd]]), (4, AV.ptr 64 0 0 0), (5, AV.int IntKind.i64 (IntKind.i64.wrap (d6.snd.snd.snd.snd.snd + 1)))], bs := [(64, { v := 0, k := BK.box, fz := false, sz := 0, es := [AV.int IntKind.i64 0, AV.int IntKind.i64 d6.snd.snd.fst.fst, AV.int IntKind.i64 d6.snd.snd.snd.fst.fst, AV.int IntKind.i64 d6.snd.snd.snd.snd.fst.fst] })], df := [] }))
        (bK (decide (IntKind.i64.wrap (1 + IntKind.i64.wrap (Int.tmod d0.fst 3)) = 2))
          (oK (elemAt true [Lf.fi IntKind.u8, Lf.fi IntKind.u8] (List.map (mkV true [Lf.fi IntKind.u8, Lf.fi IntKind.u8]) l) i) fun (d7 : Int × Int) =>
            oK (putMS.dec [AV.slc false [AV.agg [AV.int IntKind.i64 m1.fst, AV.int IntKind.i64 m1.snd.fst, AV.int IntKind.i64 m1.snd.snd.fst, AV.int IntKind.i64 m1.snd.snd.snd], AV.agg [AV.int IntKind.i64 m2.fst, AV.int IntKind.i64 m2.snd.fst, AV.int IntKind.i64 m2.snd.snd.fst, AV.int IntKind.i64 m2.snd.snd.snd], AV.agg [AV.int IntKind.i64 m3.fst, AV.int IntKind.i64 m3.snd.fst, AV.int IntKind.i64 m3.snd.snd.fst, AV.int IntKind.i64 m3.snd.snd.snd]], AV.int IntKind.i64 2, AV.agg [AV.int IntKind.i64 (IntKind.i64.wrap (Int.tmod d7.snd 20)), AV.int IntKind.i64 0, AV.int IntKind.i64 0, AV.int IntKind.i64 (IntKind.i64.wrap (i + 1))]] []) fun (d8 : (Bool × List (Int × Int × Int × Int)) × Int × Int × Int × Int × Int) =>
              oK (mkL.dec { fr := [(0, AV.slc x (List.map (mkV true [Lf.fi IntKind.u8, Lf.fi IntKind.u8]) l)), (3, AV.slc d8.fst.snd.isEmpty (List.map (mkV true Mark_tfs) (putL d8.fst.snd d8.snd.fst d8.snd.snd))), (4, AV.ptr 64 0 0 0), (5, AV.int IntKind.i64 i), (8, AV.int IntKind.i64 1)], bs := [(64, { v := 0, k := BK.box, fz := false, sz := 0, es := [AV.int IntKind.i64 0, AV.int IntKind.i64 m1.fst, AV.int IntKind.i64 (Decidable.rec (fun (h : ¬IntKind.i64.wrap (Int.tmod d7.snd 20) > m2.fst) => m2.fst) (fun (h : IntKind.i64.wrap (Int.tmod d7.snd 20) > m2.fst) => IntKind.i64.wrap (Int.tmod d7.snd 20)) (m2.fst.decLt (IntKind.i64.wrap (Int.tmod d7.snd 20)))), AV.int IntKind.i64 m3.fst] })], df := [] }) fun (d9 : Bool × List (Int × Int) × (Int × Int × Int × Int) × (Int × Int × Int × Int) × (Int × Int × Int × Int) × Int) =>
                some (Sum.inl { fr := [(0, AV.slc d9.fst (List.map (mkV true [Lf.fi IntKind.u8, Lf.fi IntKind.u8]) d9.snd.fst)), (3, AV.slc false [AV.agg [AV.int IntKind.i64 d9.snd.snd.fst.fst, AV.int IntKind.i64 d9.snd.snd.fst.snd.fst, AV.int IntKind.i64 d9.snd.snd.fst.snd.snd.fst, AV.int IntKind.i64 d9.snd.snd.fst.snd.snd.snd], AV.agg [AV.int IntKind.i64 d9.snd.snd.snd.fst.fst, AV.int IntKind.i64 d9.snd.snd.snd.fst.snd.fst, AV.int IntKind.i64 d9.snd.snd.snd.fst.snd.snd.fst, AV.int IntKind.i64 d9.snd.snd.snd.fst.snd.snd.snd], AV.agg [AV.int IntKind.i64 d9.snd.snd.snd.snd.fst.fst, AV.int IntKind.i64 d9.snd.snd.snd.snd.fst.snd.fst, AV.int IntKind.i64 d9.snd.snd.snd.snd.fst.snd.snd.fst, AV.int IntKind.i64 d9.snd.snd.snd.snd.fst.snd.snd.snd]]), (4, AV.ptr 64 0 0 0), (5, AV.int IntKind.i64 (IntKind.i64.wrap (d9.snd.snd.snd.snd.snd + 1)))], bs := [(64, { v := 0, k := BK.box, fz := false, sz := 0, es := [AV.int IntKind.i64 0, AV.int IntKind.i64 d9.snd.snd.fst.fst, AV.int IntKind.i64 d9.snd.snd.snd.fst.fst, AV.int IntKind.i64 d9.snd.snd.snd.snd.fst.fst] })], df := [] }))
          (bK (decide (IntKind.i64.wrap (1 + IntKind.i64.wrap (Int.tmod d0.fst 3)) = 3))
            (oK (elemAt true [Lf.fi IntKind.u8, Lf.fi IntKind.u8] (List.map (mkV true [Lf.fi IntKind.u8, Lf.fi IntKind.u8]) l) i) fun (d10 : Int × Int) =>
              oK (putMS.dec [AV.slc false [AV.agg [AV.int IntKind.i64 m1.fst, AV.int IntKind.i64 m1.snd.fst, AV.int IntKind.i64 m1.snd.snd.fst, AV.int IntKind.i64 m1.snd.snd.snd], AV.agg [AV.int IntKind.i64 m2.fst, AV.int IntKind.i64 m2.snd.fst, AV.int IntKind.i64 m2.snd.snd.fst, AV.int IntKind.i64 m2.snd.snd.snd], AV.agg [AV.int IntKind.i64 m3.fst, AV.int IntKind.i64 m3.snd.fst, AV.int IntKind.i64 m3.snd.snd.fst, AV.int IntKind.i64 m3.snd.snd.snd]], AV.int IntKind.i64 3, AV.agg [AV.int IntKind.i64 (IntKind.i64.wrap (Int.tmod d10.snd 20)), AV.int IntKind.i64 0, AV.int IntKind.i64 0, AV.int IntKind.i64 (IntKind.i64.wrap (i + 1))]] []) fun (d11 : (Bool × List (Int × Int × Int × Int)) × Int × Int × Int × Int × Int) =>
                oK (mkL.dec { fr := [(0, AV.slc x (List.map (mkV true [Lf.fi IntKind.u8, Lf.fi IntKind.u8]) l)), (3, AV.slc d11.fst.snd.isEmpty (List.map (mkV true Mark_tfs) (putL d11.fst.snd d11.snd.fst d11.snd.snd))), (4, AV.ptr 64 0 0 0), (5, AV.int IntKind.i64 i), (8, AV.int IntKind.i64 1)], bs := [(64, { v := 0, k := BK.box, fz := false, sz := 0, es := [AV.int IntKind.i64 0, AV.int IntKind.i64 m1.fst, AV.int IntKind.i64 m2.fst, AV.int IntKind.i64 (Decidable.rec (fun (h : ¬IntKind.i64.wrap (Int.tmod d10.snd 20) > m3.fst) => m3.fst) (fun (h : IntKind.i64.wrap (Int.tmod d10.snd 20) > m3.fst) => IntKind.i64.wrap (Int.tmod d10.snd 20)) (m3.fst.decLt (IntKind.i64.wrap (Int.tmod d10.snd 20))))] })], df := [] }) fun (d12 : Bool × List (Int × Int) × (Int × Int × Int × Int) × (Int × Int × Int × Int) × (Int × Int × Int × Int) × Int) =>
                  some (Sum.inl { fr := [(0, AV.slc d12.fst (List.map (mkV true [Lf.fi IntKind.u8, Lf.fi IntKind.u8]) d12.snd.fst)), (3, AV.slc false [AV.agg [AV.int IntKind.i64 d12.snd.snd.fst.fst, AV.int IntKind.i64 d12.snd.snd.fst.snd.fst, AV.int IntKind.i64 d12.snd.snd.fst.snd.snd.fst, AV.int IntKind.i64 d12.snd.snd.fst.snd.snd.snd], AV.agg [AV.int IntKind.i64 d12.snd.snd.snd.fst.fst, AV.int IntKind.i64 d12.snd.snd.snd.fst.snd.fst, AV.int IntKind.i64 d12.snd.snd.snd.fst.snd.snd.fst, AV.int IntKind.i64 d12.snd.snd.snd.fst.snd.snd.snd], AV.agg [AV.int IntKind.i64 d12.snd.snd.snd.snd.fst.fst, AV.int IntKind.i64 d12.snd.snd.snd.snd.fst.snd.fst, AV.int IntKind.i64 d12.snd.snd.snd.snd.fst.snd.snd.fst, AV.int IntKind.i64 d12.snd.snd.snd.snd.fst.snd.snd.snd]]), (4, AV.ptr 64 0 0 0), (5, AV.int IntKind.i64 (IntKind.i64.wrap (d12.snd.snd.snd.snd.snd + 1)))], bs := [(64, { v := 0, k := BK.box, fz := false, sz := 0, es := [AV.int IntKind.i64 0, AV.int IntKind.i64 d12.snd.snd.fst.fst, AV.int IntKind.i64 d12.snd.snd.snd.fst.fst, AV.int IntKind.i64 d12.snd.snd.snd.snd.fst.fst] })], df := [] }))
            none))))
  (some (Sum.inr (Ex.exit 0, { fr := [(3, AV.slc false [AV.agg [AV.int IntKind.i64 m1.fst, AV.int IntKind.i64 m1.snd.fst, AV.int IntKind.i64 m1.snd.snd.fst, AV.int IntKind.i64 m1.snd.snd.snd], AV.agg [AV.int IntKind.i64 m2.fst, AV.int IntKind.i64 m2.snd.fst, AV.int IntKind.i64 m2.snd.snd.fst, AV.int IntKind.i64 m2.snd.snd.snd], AV.agg [AV.int IntKind.i64 m3.fst, AV.int IntKind.i64 m3.snd.fst, AV.int IntKind.i64 m3.snd.snd.fst, AV.int IntKind.i64 m3.snd.snd.snd]])], bs := [], df := [] })))
theorem ml_s_w (x : Bool) (l : List B2) (m1 : Mark_T) (m2 : Mark_T) (m3 : Mark_T) (i : Int) : ml_s x l m1 m2 m3 i = ml_s_r x l m1 m2 m3 i := by kernel_rfl

def mlGood (x : Bool) (l : List B2) (i : Int) (r : Option (St ⊕ (Ex × St))) : Prop := ∃ m1 m2 m3 : Mark_T, r = some (.inl (mlHd x l m1 m2 m3 (i + 1)))
theorem maxGt {a q : Int} (h : a < q) : (Decidable.rec (motive := fun _ => Int) (fun (_ : ¬q > a) => a) (fun (_ : q > a) => q) (a.decLt q)) = q := by
  rw [show a.decLt q = isTrue h from Subsingleton.elim _ _]
theorem maxLe {a q : Int} (h : ¬ a < q) : (Decidable.rec (motive := fun _ => Int) (fun (_ : ¬q > a) => a) (fun (_ : q > a) => q) (a.decLt q)) = a := by
  rw [show a.decLt q = isFalse h from Subsingleton.elim _ _]
theorem putL_gt {L : List Mark_T} {c : Int} {m : Mark_T} (h1 : 1 ≤ c) (h2 : c ≤ (L.length : Int)) (h3 : (L.getD (c - 1).toNat (0, 0, 0, 0)).1 < m.1) : putL L c m = L.set (c - 1).toNat m := if_pos ⟨h1, h2, h3⟩
theorem putL_le {L : List Mark_T} {c : Int} {m : Mark_T} (h3 : ¬ (L.getD (c - 1).toNat (0, 0, 0, 0)).1 < m.1) : putL L c m = L := if_neg (fun h => h3 h.2.2)
theorem ml_step (x : Bool) (l : List B2) (hl : l.length ≤ 20) (hw : ∀ d ∈ l, (0 ≤ d.1 ∧ d.1 ≤ 255) ∧ (0 ≤ d.2 ∧ d.2 ≤ 255)) (i : Nat) (hi : i < l.length) (m1 m2 m3 : Mark_T) : mlGood x l i (ml_s_r x l m1 m2 m3 i) := by
  have e0 : IntKind.i64.wrap ((i : Int) + 1) = (i : Int) + 1 := w64 (by omega) (by omega)
  unfold ml_s_r
  rw [e0]
  have hi' : (i : Int).toNat < l.length := by omega
  refine bK_tq (by simp only [List.length_map, decide_eq_true_eq]; omega) ?_
  refine oK_atq (0, 0) (by omega) hi' ?_
  have hget : l.getD (i : Int).toNat (0, 0) = l[i] := by rw [getD_at hi']; simp
  have hd := hw _ (List.getElem_mem (l := l) (n := i) hi)
  rw [hget]
  have hm3 : 0 ≤ Int.tmod l[i].1 3 ∧ Int.tmod l[i].1 3 < 3 := ⟨Int.tmod_nonneg _ hd.1.1, Int.tmod_lt_of_pos _ (by omega)⟩
  have hc : IntKind.i64.wrap (1 + IntKind.i64.wrap (Int.tmod l[i].1 3)) = 1 + Int.tmod l[i].1 3 := by rw [w64 (n := Int.tmod _ 3) (by omega) (by omega), w64 (by omega) (by omega)]
  rw [hc]
  have h3 : ([m1, m2, m3] : List Mark_T).length ≤ 100000 := by simp
  refine bK_iq (fun c => absurd c (by omega)) (fun _ => bK_iq (fun _ => ?_) (fun c1 => bK_iq (fun _ => ?_) (fun c2 => bK_iq (fun _ => ?_) (fun c3 => absurd hm3 (by omega)))))
  · refine oK_atq (0, 0) (by omega) hi' ?_
    rw [hget]
    generalize IntKind.i64.wrap (Int.tmod l[i].2 20) = q
    refine oK_fsq putMS ((false, [m1, m2, m3]), 1, (q, 0, 0, (i : Int) + 1)) h3 ?_
    dsimp only
    by_cases h : m1.1 < q
    · rw [maxGt h, putL_gt (L := [m1, m2, m3]) (c := 1) (m := (q, 0, 0, (i : Int) + 1)) (by decide) (by show _ ≤ ((3 : Nat) : Int); decide) h]
      refine oK_lpq mkH_inj (x, l, (q, 0, 0, (i : Int) + 1), m2, m3, (i : Int)) trivial ?_
      rw [e0]
      exact ⟨_, _, _, rfl⟩
    · rw [maxLe h, putL_le (L := [m1, m2, m3]) (c := 1) (m := (q, 0, 0, (i : Int) + 1)) h]
      refine oK_lpq mkH_inj (x, l, m1, m2, m3, (i : Int)) trivial ?_
      rw [e0]
      exact ⟨_, _, _, rfl⟩
  · refine oK_atq (0, 0) (by omega) hi' ?_
    rw [hget]
    generalize IntKind.i64.wrap (Int.tmod l[i].2 20) = q
    refine oK_fsq putMS ((false, [m1, m2, m3]), 2, (q, 0, 0, (i : Int) + 1)) h3 ?_
    dsimp only
    by_cases h : m2.1 < q
    · rw [maxGt h, putL_gt (L := [m1, m2, m3]) (c := 2) (m := (q, 0, 0, (i : Int) + 1)) (by decide) (by show _ ≤ ((3 : Nat) : Int); decide) h]
      refine oK_lpq mkH_inj (x, l, m1, (q, 0, 0, (i : Int) + 1), m3, (i : Int)) trivial ?_
      rw [e0]
      exact ⟨_, _, _, rfl⟩
    · rw [maxLe h, putL_le (L := [m1, m2, m3]) (c := 2) (m := (q, 0, 0, (i : Int) + 1)) h]
      refine oK_lpq mkH_inj (x, l, m1, m2, m3, (i : Int)) trivial ?_
      rw [e0]
      exact ⟨_, _, _, rfl⟩
  · refine oK_atq (0, 0) (by omega) hi' ?_
    rw [hget]
    generalize IntKind.i64.wrap (Int.tmod l[i].2 20) = q
    refine oK_fsq putMS ((false, [m1, m2, m3]), 3, (q, 0, 0, (i : Int) + 1)) h3 ?_
    dsimp only
    by_cases h : m3.1 < q
    · rw [maxGt h, putL_gt (L := [m1, m2, m3]) (c := 3) (m := (q, 0, 0, (i : Int) + 1)) (by decide) (by show _ ≤ ((3 : Nat) : Int); decide) h]
      refine oK_lpq mkH_inj (x, l, m1, m2, (q, 0, 0, (i : Int) + 1), (i : Int)) trivial ?_
      rw [e0]
      exact ⟨_, _, _, rfl⟩
    · rw [maxLe h, putL_le (L := [m1, m2, m3]) (c := 3) (m := (q, 0, 0, (i : Int) + 1)) h]
      refine oK_lpq mkH_inj (x, l, m1, m2, m3, (i : Int)) trivial ?_
      rw [e0]
      exact ⟨_, _, _, rfl⟩
def mlEnd (m1 m2 m3 : Mark_T) : St := { fr := [(3, .slc false ([m1, m2, m3].map (mkV true Mark_tfs)))], bs := [], df := [] }
theorem ml_run (x : Bool) (l : List B2) (hl : l.length ≤ 20) (hw : ∀ d ∈ l, (0 ≤ d.1 ∧ d.1 ≤ 255) ∧ (0 ≤ d.2 ∧ d.2 ≤ 255)) : ∀ (k i : Nat), i + k = l.length → ∀ (m1 m2 m3 : Mark_T) (m : Nat), k < m →
    ∃ y : Mark_T × Mark_T × Mark_T, Runs' Try.prog cfg PK7 4 0 m (mlHd x l m1 m2 m3 i) (.exit 0, mlEnd y.1 y.2.1 y.2.2)
  | 0, i, hi, m1, m2, m3, m + 1, hm => by
    refine ⟨(m1, m2, m3), Runs'.done (lp := LPk) LPk_ok at4_0 ((ml_s_w x l m1 m2 m3 i).trans ?_)⟩
    unfold ml_s_r
    rw [bK_neg (by simp; omega)]
    rfl
  | k + 1, i, hi, m1, m2, m3, m + 1, hm => by
    obtain ⟨a1, a2, a3, he⟩ := ml_step x l hl hw i (by omega) m1 m2 m3
    obtain ⟨y, hr⟩ := ml_run x l hl hw k (i + 1) (by omega) a1 a2 a3 m (by omega)
    exact ⟨y, Runs'.step (lp := LPk) LPk_ok at4_0 ((ml_s_w x l m1 m2 m3 i).trans he) (by simpa using hr)⟩
abbrev MlD : Type := Bool × List B2
def mz : Mark_T := (0, 0, 0, 0)
def mlH (d : MlD) : St := mlHd d.1 d.2 mz mz mz 0
def mlP (d : MlD) : Prop := d.2.length ≤ 20 ∧ ∀ e ∈ d.2, (0 ≤ e.1 ∧ e.1 ≤ 255) ∧ (0 ≤ e.2 ∧ e.2 ≤ 255)
theorem ml_ex (d : MlD) (h : mlP d) : ∃ y : Mark_T × Mark_T × Mark_T, Runs' Try.prog cfg PK7 4 0 rounds (mlH d) (.exit 0, mlEnd y.1 y.2.1 y.2.2) :=
  ml_run d.1 d.2 h.1 h.2 d.2.length 0 (by omega) mz mz mz rounds (by have := h.1; simp only [rounds]; omega)
/-- The marks behind all. -/
noncomputable def mlR (d : MlD) : Mark_T × Mark_T × Mark_T := open Classical in if h : mlP d then Classical.choose (ml_ex d h) else (mz, mz, mz)
noncomputable def mlL : LP := LP.of (D := MlD) mlH mlP fun d => .leaf (.exit 0, mlEnd (mlR d).1 (mlR d).2.1 (mlR d).2.2)
noncomputable def LPl : LPs := LPs.add LPk 4 0 mlL
theorem mlR_spec (d : MlD) (h : mlP d) : Runs' Try.prog cfg PK7 4 0 rounds (mlH d) (.exit 0, mlEnd (mlR d).1 (mlR d).2.1 (mlR d).2.2) := by
  unfold mlR
  rw [dif_pos h]
  exact Classical.choose_spec (ml_ex d h)
theorem LPl_ok : LPok Try.prog cfg PK7 LPl 4 := LPok.addH LPk_ok one4 fun d h => mlR_spec d h
theorem mlH_inj (d d' : MlD) (h : mlH d = mlH d') : d = d' := by
  obtain ⟨x, l⟩ := d
  obtain ⟨x', l'⟩ := d'
  simp only [mlH, mlHd, lastB, boxB, St.mk.injEq, List.cons.injEq, Prod.mk.injEq, AV.slc.injEq, and_true, true_and] at h
  rw [h.1, map_inj (fs := B2_fs) rfl h.2]
abbrev markLast_id : Nat := 4
abbrev markLast_sh : Shp := [none]
abbrev markLast_fs : List Lf := [.fl true [.fi .u8, .fi .u8]]
abbrev markLast_rsh : Shp := [none]
abbrev markLast_rfs : List Lf := [.fb]
noncomputable def markLast_r (l_x : Bool) (l : List (Int × Int)) : Option Ret :=
  oK (begunS.dec [] []) fun (d0 : PUnit) => bK (decide (20 < (↑(List.map (mkV true [Lf.fi IntKind.u8, Lf.fi IntKind.u8]) l).length : Int))) (some { pan := false, res := AV.bool true, out := [], new := [] }) (oK (newMS.dec [AV.int IntKind.i64 3] []) fun (d1 : Int) => oK (mlL.dec { fr := [(0, AV.slc l_x (List.map (mkV true [Lf.fi IntKind.u8, Lf.fi IntKind.u8]) l)), (3, AV.slc (decide (d1 < 1)) (List.map (mkV true Mark_tfs) (List.replicate d1.toNat (0, 0, 0, 0)))), (4, AV.ptr 64 0 0 0), (5, AV.int IntKind.i64 0)], bs := [(64, { v := 0, k := BK.box, fz := false, sz := 0, es := [AV.int IntKind.i64 0, AV.int IntKind.i64 0, AV.int IntKind.i64 0, AV.int IntKind.i64 0] })], df := [] }) fun (d2 : Bool × List (Int × Int)) => some { pan := false, res := AV.bool true, out := [], new := [] })
theorem markLast_w (l_x : Bool) (l : List (Int × Int)) : unitQ Try.prog cfg PK7 LPl true 4 (groupA markLast_sh (Tu.mk markLast_fs (l_x, l))) [] = markLast_r l_x l := by kernel_rfl

theorem markLast_yes (l_x : Bool) (l : List (Int × Int)) (h : Tu.wf markLast_fs (l_x, l)) : Yes (markLast_r l_x l) := by
  unfold markLast_r
  refine oK_fsq begunS () trivial ?_
  refine bK_iq (fun _ => yes_leaf) (fun c => ?_)
  have hl : l.length ≤ 20 := by simp only [List.length_map] at c; omega
  refine oK_fsq newMS (3 : Int) (show (3 : Int) ≤ 1000 by decide) ?_
  refine oK_lpq mlH_inj (l_x, l) ⟨hl, fun e he => h.2 e he⟩ ?_
  exact yes_leaf

end Go.Proofs.Ythdmjojanccjfaa
