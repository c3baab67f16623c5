/- A part of the proof: contracts of functions. -/
import Derived.Test.YtlhnpfpdjlcakaaG
import Derived.Test.YtlhnpfpdjlcakaaAbCl

set_option linter.unusedVariables false
set_option linter.unusedSimpArgs false
set_option maxRecDepth 100000
namespace Go.Proofs.Ytlhnpfpdjlcakaa
open Go Go.Ab
abbrev B3 : Type := Int × Int × Int
abbrev B3_fs : List Lf := [.fi .u8, .fi .u8, .fi .u8]
def rdHd (x : Bool) (l : List B3) (c : Cache_T) (want : List UInt8) (i : Int) : St := { fr := [(0, .slc x (l.map (mkV true B3_fs))), (5, .ptr 80 0 0 0), (6, .str want), (7, .int .i64 i)], bs := [(80, boxB (Tu.mk Cache_tfs c))], df := [] }
noncomputable def rd_s (x : Bool) (l : List B3) (c : Cache_T) (want : List UInt8) (i : Int) : Option (St ⊕ (Ex × St)) := stepK Try.prog cfg PKg3 LP0 4 0 (rdHd x l c want i)
noncomputable def rd_s_r (x : Bool) (l : List B3) (c : Cache_T) (want : List UInt8) (i : Int) : Option (St ⊕ Ex × St) :=
  bK (decide (i < (↑(List.map (mkV true [Lf.fi IntKind.u8, Lf.fi IntKind.u8, Lf.fi IntKind.u8]) l).length : Int)))
  (oK (elemAt true [Lf.fi IntKind.u8, Lf.fi IntKind.u8, Lf.fi IntKind.u8] (List.map (mkV true [Lf.fi IntKind.u8, Lf.fi IntKind.u8, Lf.fi IntKind.u8]) l) i) fun (d0 : Int × Int × Int) =>
    bK (decide (Int.tmod d0.fst 4 = 0))
      (oK (viewCS.dec [AV.agg [AV.int IntKind.i64 c.fst, AV.int IntKind.i64 c.snd.fst, AV.int IntKind.i64 c.snd.snd.fst, AV.str c.snd.snd.snd.fst, AV.slc c.snd.snd.snd.snd.fst.fst (List.map (mkV true Write_tfs) c.snd.snd.snd.snd.fst.snd), AV.int IntKind.i64 (↑(List.map (mkV true Write_tfs) c.snd.snd.snd.snd.fst.snd).length : Int), AV.bool c.snd.snd.snd.snd.snd.snd.fst, AV.bool c.snd.snd.snd.snd.snd.snd.snd]] []) fun (d1 : Int × Int × Int × List UInt8 × (Bool × List (Int × List UInt8)) × Int × Bool × Bool) =>
        bK (!decide (allF (cA d1).snd.snd.snd.fst (dOf d1) = want)) (some (Sum.inr (Ex.ret, { fr := [(4, AV.bool false), (5, AV.ptr 80 0 0 0)], bs := [(80, { v := 0, k := BK.box, fz := false, sz := 0, es := [AV.int IntKind.i64 c.fst, AV.int IntKind.i64 c.snd.fst, AV.int IntKind.i64 c.snd.snd.fst, AV.str c.snd.snd.snd.fst, AV.slc c.snd.snd.snd.snd.fst.fst (List.map (mkV true Write_tfs) c.snd.snd.snd.snd.fst.snd), AV.int IntKind.i64 (↑(List.map (mkV true Write_tfs) c.snd.snd.snd.snd.fst.snd).length : Int), AV.bool c.snd.snd.snd.snd.snd.snd.fst, AV.bool c.snd.snd.snd.snd.snd.snd.snd] })], df := [] })))
          (oK (validS.dec [AV.agg [AV.int IntKind.i64 c.fst, AV.int IntKind.i64 c.snd.fst, AV.int IntKind.i64 c.snd.snd.fst, AV.str c.snd.snd.snd.fst, AV.slc c.snd.snd.snd.snd.fst.fst (List.map (mkV true Write_tfs) c.snd.snd.snd.snd.fst.snd), AV.int IntKind.i64 (↑(List.map (mkV true Write_tfs) c.snd.snd.snd.snd.fst.snd).length : Int), AV.bool c.snd.snd.snd.snd.snd.snd.fst, AV.bool c.snd.snd.snd.snd.snd.snd.snd], AV.int IntKind.i64 999] []) fun (d2 : Int × Int × Int × List UInt8 × (Bool × List (Int × List UInt8)) × Int × Bool × Bool × Int) =>
            bK (!decide (validF (cOf d2) (nOf d2) = 2)) (some (Sum.inr (Ex.ret, { fr := [(4, AV.bool false), (5, AV.ptr 80 0 0 0)], bs := [(80, { v := 0, k := BK.box, fz := false, sz := 0, es := [AV.int IntKind.i64 c.fst, AV.int IntKind.i64 c.snd.fst, AV.int IntKind.i64 c.snd.snd.fst, AV.str c.snd.snd.snd.fst, AV.slc c.snd.snd.snd.snd.fst.fst (List.map (mkV true Write_tfs) c.snd.snd.snd.snd.fst.snd), AV.int IntKind.i64 (↑(List.map (mkV true Write_tfs) c.snd.snd.snd.snd.fst.snd).length : Int), AV.bool c.snd.snd.snd.snd.snd.snd.fst, AV.bool c.snd.snd.snd.snd.snd.snd.snd] })], df := [] })))
              (bK (decide ((↑(List.map (mkV true Write_tfs) c.snd.snd.snd.snd.fst.snd).length : Int) < (↑(List.map (mkV true Write_tfs) c.snd.snd.snd.snd.fst.snd).length : Int))) (some (Sum.inr (Ex.ret, { fr := [(4, AV.bool false), (5, AV.ptr 80 0 0 0)], bs := [(80, { v := 0, k := BK.box, fz := false, sz := 0, es := [AV.int IntKind.i64 c.fst, AV.int IntKind.i64 c.snd.fst, AV.int IntKind.i64 c.snd.snd.fst, AV.str c.snd.snd.snd.fst, AV.slc c.snd.snd.snd.snd.fst.fst (List.map (mkV true Write_tfs) c.snd.snd.snd.snd.fst.snd), AV.int IntKind.i64 (↑(List.map (mkV true Write_tfs) c.snd.snd.snd.snd.fst.snd).length : Int), AV.bool c.snd.snd.snd.snd.snd.snd.fst, AV.bool c.snd.snd.snd.snd.snd.snd.snd] })], df := [] })))
                (bK (decide (5 < (↑(List.map (mkV true Write_tfs) c.snd.snd.snd.snd.fst.snd).length : Int))) (some (Sum.inr (Ex.ret, { fr := [(4, AV.bool false), (5, AV.ptr 80 0 0 0)], bs := [(80, { v := 0, k := BK.box, fz := false, sz := 0, es := [AV.int IntKind.i64 c.fst, AV.int IntKind.i64 c.snd.fst, AV.int IntKind.i64 c.snd.snd.fst, AV.str c.snd.snd.snd.fst, AV.slc c.snd.snd.snd.snd.fst.fst (List.map (mkV true Write_tfs) c.snd.snd.snd.snd.fst.snd), AV.int IntKind.i64 (↑(List.map (mkV true Write_tfs) c.snd.snd.snd.snd.fst.snd).length : Int), AV.bool c.snd.snd.snd.snd.snd.snd.fst, AV.bool c.snd.snd.snd.snd.snd.snd.snd] })], df := [] }))) (some (Sum.inl { fr := [(0, AV.slc x (List.map (mkV true [Lf.fi IntKind.u8, Lf.fi IntKind.u8, Lf.fi IntKind.u8]) l)), (5, AV.ptr 80 0 0 0), (6, AV.str want), (7, AV.int IntKind.i64 (IntKind.i64.wrap (i + 1)))], bs := [(80, { v := 0, k := BK.box, fz := false, sz := 0, es := [AV.int IntKind.i64 c.fst, AV.int IntKind.i64 c.snd.fst, AV.int IntKind.i64 c.snd.snd.fst, AV.str c.snd.snd.snd.fst, AV.slc c.snd.snd.snd.snd.fst.fst (List.map (mkV true Write_tfs) c.snd.snd.snd.snd.fst.snd), AV.int IntKind.i64 (↑(List.map (mkV true Write_tfs) c.snd.snd.snd.snd.fst.snd).length : Int), AV.bool c.snd.snd.snd.snd.snd.snd.fst, AV.bool c.snd.snd.snd.snd.snd.snd.snd] })], df := [] }))))))
      (bK (decide (Int.tmod d0.fst 4 = 1))
        (oK (doneS.dec [AV.agg [AV.int IntKind.i64 c.fst, AV.int IntKind.i64 c.snd.fst, AV.int IntKind.i64 c.snd.snd.fst, AV.str c.snd.snd.snd.fst, AV.slc c.snd.snd.snd.snd.fst.fst (List.map (mkV true Write_tfs) c.snd.snd.snd.snd.fst.snd), AV.int IntKind.i64 c.snd.snd.snd.snd.snd.fst, AV.bool c.snd.snd.snd.snd.snd.snd.fst, AV.bool c.snd.snd.snd.snd.snd.snd.snd], AV.int IntKind.i64 (IntKind.i64.wrap (2 + i))] []) fun (d3 : Int × Int × Int × List UInt8 × (Bool × List (Int × List UInt8)) × Int × Bool × Bool × Int) =>
          bK (!decide ((doneCF (cOf d3) (nOf d3)).snd.snd.snd.snd.snd.fst = 0)) (some (Sum.inr (Ex.ret, { fr := [(4, AV.bool false), (5, AV.ptr 80 0 0 0)], bs := [(80, { v := 0, k := BK.box, fz := false, sz := 0, es := [AV.int IntKind.i64 (doneCF (cOf d3) (nOf d3)).fst, AV.int IntKind.i64 (doneCF (cOf d3) (nOf d3)).snd.fst, AV.int IntKind.i64 (doneCF (cOf d3) (nOf d3)).snd.snd.fst, AV.str (doneCF (cOf d3) (nOf d3)).snd.snd.snd.fst, AV.slc (doneCF (cOf d3) (nOf d3)).snd.snd.snd.snd.fst.fst (List.map (mkV true Write_tfs) (doneCF (cOf d3) (nOf d3)).snd.snd.snd.snd.fst.snd), AV.int IntKind.i64 (doneCF (cOf d3) (nOf d3)).snd.snd.snd.snd.snd.fst, AV.bool (doneCF (cOf d3) (nOf d3)).snd.snd.snd.snd.snd.snd.fst, AV.bool (doneCF (cOf d3) (nOf d3)).snd.snd.snd.snd.snd.snd.snd] })], df := [] })))
            (bK (!decide ((doneCF (cOf d3) (nOf d3)).snd.snd.fst = IntKind.i64.wrap (2 + i))) (some (Sum.inr (Ex.ret, { fr := [(4, AV.bool false), (5, AV.ptr 80 0 0 0)], bs := [(80, { v := 0, k := BK.box, fz := false, sz := 0, es := [AV.int IntKind.i64 (doneCF (cOf d3) (nOf d3)).fst, AV.int IntKind.i64 (doneCF (cOf d3) (nOf d3)).snd.fst, AV.int IntKind.i64 (doneCF (cOf d3) (nOf d3)).snd.snd.fst, AV.str (doneCF (cOf d3) (nOf d3)).snd.snd.snd.fst, AV.slc (doneCF (cOf d3) (nOf d3)).snd.snd.snd.snd.fst.fst (List.map (mkV true Write_tfs) (doneCF (cOf d3) (nOf d3)).snd.snd.snd.snd.fst.snd), AV.int IntKind.i64 (doneCF (cOf d3) (nOf d3)).snd.snd.snd.snd.snd.fst, AV.bool (doneCF (cOf d3) (nOf d3)).snd.snd.snd.snd.snd.snd.fst, AV.bool (doneCF (cOf d3) (nOf d3)).snd.snd.snd.snd.snd.snd.snd] })], df := [] })))
              (oK (viewCS.dec [AV.agg [AV.int IntKind.i64 (doneCF (cOf d3) (nOf d3)).fst, AV.int IntKind.i64 (doneCF (cOf d3) (nOf d3)).snd.fst, AV.int IntKind.i64 (doneCF (cOf d3) (nOf d3)).snd.snd.fst, AV.str (doneCF (cOf d3) (nOf d3)).snd.snd.snd.fst, AV.slc (doneCF (cOf d3) (nOf d3)).snd.snd.snd.snd.fst.fst (List.map (mkV true Write_tfs) (doneCF (cOf d3) (nOf d3)).snd.snd.snd.snd.fst.snd), AV.int IntKind.i64 (doneCF (cOf d3) (nOf d3)).snd.snd.snd.snd.snd.fst, AV.bool (doneCF (cOf d3) (nOf d3)).snd.snd.snd.snd.snd.snd.fst, AV.bool (doneCF (cOf d3) (nOf d3)).snd.snd.snd.snd.snd.snd.snd]] []) fun (d4 : Int × Int × Int × List UInt8 × (Bool × List (Int × List UInt8)) × Int × Bool × Bool) =>
                bK (!decide (allF (cA d4).snd.snd.snd.fst (dOf d4) = want)) (some (Sum.inr (Ex.ret, { fr := [(4, AV.bool false), (5, AV.ptr 80 0 0 0)], bs := [(80, { v := 0, k := BK.box, fz := false, sz := 0, es := [AV.int IntKind.i64 (doneCF (cOf d3) (nOf d3)).fst, AV.int IntKind.i64 (doneCF (cOf d3) (nOf d3)).snd.fst, AV.int IntKind.i64 (doneCF (cOf d3) (nOf d3)).snd.snd.fst, AV.str (doneCF (cOf d3) (nOf d3)).snd.snd.snd.fst, AV.slc (doneCF (cOf d3) (nOf d3)).snd.snd.snd.snd.fst.fst (List.map (mkV true Write_tfs) (doneCF (cOf d3) (nOf d3)).snd.snd.snd.snd.fst.snd), AV.int IntKind.i64 (doneCF (cOf d3) (nOf d3)).snd.snd.snd.snd.snd.fst, AV.bool (doneCF (cOf d3) (nOf d3)).snd.snd.snd.snd.snd.snd.fst, AV.bool (doneCF (cOf d3) (nOf d3)).snd.snd.snd.snd.snd.snd.snd] })], df := [] })))
                  (oK (validS.dec [AV.agg [AV.int IntKind.i64 (doneCF (cOf d3) (nOf d3)).fst, AV.int IntKind.i64 (doneCF (cOf d3) (nOf d3)).snd.fst, AV.int IntKind.i64 (doneCF (cOf d3) (nOf d3)).snd.snd.fst, AV.str (doneCF (cOf d3) (nOf d3)).snd.snd.snd.fst, AV.slc (doneCF (cOf d3) (nOf d3)).snd.snd.snd.snd.fst.fst (List.map (mkV true Write_tfs) (doneCF (cOf d3) (nOf d3)).snd.snd.snd.snd.fst.snd), AV.int IntKind.i64 (doneCF (cOf d3) (nOf d3)).snd.snd.snd.snd.snd.fst, AV.bool (doneCF (cOf d3) (nOf d3)).snd.snd.snd.snd.snd.snd.fst, AV.bool (doneCF (cOf d3) (nOf d3)).snd.snd.snd.snd.snd.snd.snd], AV.int IntKind.i64 999] []) fun (d5 : Int × Int × Int × List UInt8 × (Bool × List (Int × List UInt8)) × Int × Bool × Bool × Int) =>
                    bK (!decide (validF (cOf d5) (nOf d5) = 2)) (some (Sum.inr (Ex.ret, { fr := [(4, AV.bool false), (5, AV.ptr 80 0 0 0)], bs := [(80, { v := 0, k := BK.box, fz := false, sz := 0, es := [AV.int IntKind.i64 (doneCF (cOf d3) (nOf d3)).fst, AV.int IntKind.i64 (doneCF (cOf d3) (nOf d3)).snd.fst, AV.int IntKind.i64 (doneCF (cOf d3) (nOf d3)).snd.snd.fst, AV.str (doneCF (cOf d3) (nOf d3)).snd.snd.snd.fst, AV.slc (doneCF (cOf d3) (nOf d3)).snd.snd.snd.snd.fst.fst (List.map (mkV true Write_tfs) (doneCF (cOf d3) (nOf d3)).snd.snd.snd.snd.fst.snd), AV.int IntKind.i64 (doneCF (cOf d3) (nOf d3)).snd.snd.snd.snd.snd.fst, AV.bool (doneCF (cOf d3) (nOf d3)).snd.snd.snd.snd.snd.snd.fst, AV.bool (doneCF (cOf d3) (nOf d3)).snd.snd.snd.snd.snd.snd.snd] })], df := [] })))
                      (bK (decide ((↑(List.map (mkV true Write_tfs) (doneCF (cOf d3) (nOf d3)).snd.snd.snd.snd.fst.snd).length : Int) < (doneCF (cOf d3) (nOf d3)).snd.snd.snd.snd.snd.fst)) (some (Sum.inr (Ex.ret, { fr := [(4, AV.bool false), (5, AV.ptr 80 0 0 0)], bs := [(80, { v := 0, k := BK.box, fz := false, sz := 0, es := [AV.int IntKind.i64 (doneCF (cOf d3) (nOf d3)).fst, AV.int IntKind.i64 (doneCF (cOf d3) (nOf d3)).snd.fst, AV.int IntKind.i64 (doneCF (cOf d3) (nOf d3)).snd.snd.fst, AV.str (doneCF (cOf d3) (nOf d3)).snd.snd.snd.fst, AV.slc (doneCF (cOf d3) (nOf d3)).snd.snd.snd.snd.fst.fst (List.map (mkV true Write_tfs) (doneCF (cOf d3) (nOf d3)).snd.snd.snd.snd.fst.snd), AV.int IntKind.i64 (doneCF (cOf d3) (nOf d3)).snd.snd.snd.snd.snd.fst, AV.bool (doneCF (cOf d3) (nOf d3)).snd.snd.snd.snd.snd.snd.fst, AV.bool (doneCF (cOf d3) (nOf d3)).snd.snd.snd.snd.snd.snd.snd] })], df := [] })))
                        (bK (decide (5 < (↑(List.map (mkV true Write_tfs) (doneCF (cOf d3) (nOf d3)).snd.snd.snd.snd.fst.snd).length : Int))) (some (Sum.inr (Ex.ret, { fr := [(4, AV.bool false), (5, AV.ptr 80 0 0 0)], bs := [(80, { v := 0, k := BK.box, fz := false, sz := 0, es := [AV.int IntKind.i64 (doneCF (cOf d3) (nOf d3)).fst, AV.int IntKind.i64 (doneCF (cOf d3) (nOf d3)).snd.fst, AV.int IntKind.i64 (doneCF (cOf d3) (nOf d3)).snd.snd.fst, AV.str (doneCF (cOf d3) (nOf d3)).snd.snd.snd.fst, AV.slc (doneCF (cOf d3) (nOf d3)).snd.snd.snd.snd.fst.fst (List.map (mkV true Write_tfs) (doneCF (cOf d3) (nOf d3)).snd.snd.snd.snd.fst.snd), AV.int IntKind.i64 (doneCF (cOf d3) (nOf d3)).snd.snd.snd.snd.snd.fst, AV.bool (doneCF (cOf d3) (nOf d3)).snd.snd.snd.snd.snd.snd.fst, AV.bool (doneCF (cOf d3) (nOf d3)).snd.snd.snd.snd.snd.snd.snd] })], df := [] })))
                          (some (Sum.inl { fr := [(0, AV.slc x (List.map (mkV true [Lf.fi IntKind.u8, Lf.fi IntKind.u8, Lf.fi IntKind.u8]) l)), (5, AV.ptr 80 0 0 0), (6, AV.str want), (7, AV.int IntKind.i64 (IntKind.i64.wrap (i + 1)))], bs := [(80, { v := 0, k := BK.box, fz := false, sz := 0, es := [AV.int IntKind.i64 (doneCF (cOf d3) (nOf d3)).fst, AV.int IntKind.i64 (doneCF (cOf d3) (nOf d3)).snd.fst, AV.int IntKind.i64 (doneCF (cOf d3) (nOf d3)).snd.snd.fst, AV.str (doneCF (cOf d3) (nOf d3)).snd.snd.snd.fst, AV.slc (doneCF (cOf d3) (nOf d3)).snd.snd.snd.snd.fst.fst (List.map (mkV true Write_tfs) (doneCF (cOf d3) (nOf d3)).snd.snd.snd.snd.fst.snd), AV.int IntKind.i64 (doneCF (cOf d3) (nOf d3)).snd.snd.snd.snd.snd.fst, AV.bool (doneCF (cOf d3) (nOf d3)).snd.snd.snd.snd.snd.snd.fst, AV.bool (doneCF (cOf d3) (nOf d3)).snd.snd.snd.snd.snd.snd.snd] })], df := [] }))))))))
        (oK (elemAt true [Lf.fi IntKind.u8, Lf.fi IntKind.u8, Lf.fi IntKind.u8] (List.map (mkV true [Lf.fi IntKind.u8, Lf.fi IntKind.u8, Lf.fi IntKind.u8]) l) i) fun (d6 : Int × Int × Int) =>
          oK (elemAt true [Lf.fi IntKind.u8, Lf.fi IntKind.u8, Lf.fi IntKind.u8] (List.map (mkV true [Lf.fi IntKind.u8, Lf.fi IntKind.u8, Lf.fi IntKind.u8]) l) i) fun (d7 : Int × Int × Int) =>
            oK (bufS.dec [AV.agg [AV.int IntKind.i64 c.fst, AV.int IntKind.i64 c.snd.fst, AV.int IntKind.i64 c.snd.snd.fst, AV.str c.snd.snd.snd.fst, AV.slc c.snd.snd.snd.snd.fst.fst (List.map (mkV true Write_tfs) c.snd.snd.snd.snd.fst.snd), AV.int IntKind.i64 c.snd.snd.snd.snd.snd.fst, AV.bool c.snd.snd.snd.snd.snd.snd.fst, AV.bool c.snd.snd.snd.snd.snd.snd.snd], AV.agg [AV.int IntKind.i64 (IntKind.i64.wrap (Int.tmod d6.snd.fst 20)), AV.str [UInt8.ofNat (IntKind.u8.wrap (97 + Int.tmod d7.snd.snd 26)).toNat]]] []) fun (d8 : Int × Int × Int × List UInt8 × (Bool × List (Int × List UInt8)) × Int × Bool × Bool × Int × List UInt8) =>
              bK (!(bOut (bufCF (bC d8) (bW d8))).snd.snd.snd.snd.snd.snd.snd.snd == decide ((↑(List.map (mkV true Write_tfs) c.snd.snd.snd.snd.fst.snd).length : Int) < 5)) (some (Sum.inr (Ex.ret, { fr := [(4, AV.bool false), (5, AV.ptr 80 0 0 0)], bs := [(80, { v := 0, k := BK.box, fz := false, sz := 0, es := [AV.int IntKind.i64 c.fst, AV.int IntKind.i64 c.snd.fst, AV.int IntKind.i64 c.snd.snd.fst, AV.str c.snd.snd.snd.fst, AV.slc c.snd.snd.snd.snd.fst.fst (List.map (mkV true Write_tfs) c.snd.snd.snd.snd.fst.snd), AV.int IntKind.i64 c.snd.snd.snd.snd.snd.fst, AV.bool c.snd.snd.snd.snd.snd.snd.fst, AV.bool c.snd.snd.snd.snd.snd.snd.snd] })], df := [] })))
                (bK (bOut (bufCF (bC d8) (bW d8))).snd.snd.snd.snd.snd.snd.snd.snd
                  (oK (putRS.dec [AV.str want, AV.agg [AV.int IntKind.i64 (IntKind.i64.wrap (Int.tmod d6.snd.fst 20)), AV.str [UInt8.ofNat (IntKind.u8.wrap (97 + Int.tmod d7.snd.snd 26)).toNat]]] []) fun (d9 : List UInt8 × Int × List UInt8) =>
                    oK (viewCS.dec [AV.agg [AV.int IntKind.i64 (bOut (bufCF (bC d8) (bW d8))).fst, AV.int IntKind.i64 (bOut (bufCF (bC d8) (bW d8))).snd.fst, AV.int IntKind.i64 (bOut (bufCF (bC d8) (bW d8))).snd.snd.fst, AV.str (bOut (bufCF (bC d8) (bW d8))).snd.snd.snd.fst, AV.slc (bOut (bufCF (bC d8) (bW d8))).snd.snd.snd.snd.fst.fst (List.map (mkV true Write_tfs) (bOut (bufCF (bC d8) (bW d8))).snd.snd.snd.snd.fst.snd), AV.int IntKind.i64 (bOut (bufCF (bC d8) (bW d8))).snd.snd.snd.snd.snd.fst, AV.bool (bOut (bufCF (bC d8) (bW d8))).snd.snd.snd.snd.snd.snd.fst, AV.bool (bOut (bufCF (bC d8) (bW d8))).snd.snd.snd.snd.snd.snd.snd.fst]] []) fun (d10 : Int × Int × Int × List UInt8 × (Bool × List (Int × List UInt8)) × Int × Bool × Bool) =>
                      bK (!decide (allF (cA d10).snd.snd.snd.fst (dOf d10) = putB d9.fst d9.snd)) (some (Sum.inr (Ex.ret, { fr := [(4, AV.bool false), (5, AV.ptr 80 0 0 0)], bs := [(80, { v := 0, k := BK.box, fz := false, sz := 0, es := [AV.int IntKind.i64 (bOut (bufCF (bC d8) (bW d8))).fst, AV.int IntKind.i64 (bOut (bufCF (bC d8) (bW d8))).snd.fst, AV.int IntKind.i64 (bOut (bufCF (bC d8) (bW d8))).snd.snd.fst, AV.str (bOut (bufCF (bC d8) (bW d8))).snd.snd.snd.fst, AV.slc (bOut (bufCF (bC d8) (bW d8))).snd.snd.snd.snd.fst.fst (List.map (mkV true Write_tfs) (bOut (bufCF (bC d8) (bW d8))).snd.snd.snd.snd.fst.snd), AV.int IntKind.i64 (bOut (bufCF (bC d8) (bW d8))).snd.snd.snd.snd.snd.fst, AV.bool (bOut (bufCF (bC d8) (bW d8))).snd.snd.snd.snd.snd.snd.fst, AV.bool (bOut (bufCF (bC d8) (bW d8))).snd.snd.snd.snd.snd.snd.snd.fst] })], df := [] })))
                        (oK (validS.dec [AV.agg [AV.int IntKind.i64 (bOut (bufCF (bC d8) (bW d8))).fst, AV.int IntKind.i64 (bOut (bufCF (bC d8) (bW d8))).snd.fst, AV.int IntKind.i64 (bOut (bufCF (bC d8) (bW d8))).snd.snd.fst, AV.str (bOut (bufCF (bC d8) (bW d8))).snd.snd.snd.fst, AV.slc (bOut (bufCF (bC d8) (bW d8))).snd.snd.snd.snd.fst.fst (List.map (mkV true Write_tfs) (bOut (bufCF (bC d8) (bW d8))).snd.snd.snd.snd.fst.snd), AV.int IntKind.i64 (bOut (bufCF (bC d8) (bW d8))).snd.snd.snd.snd.snd.fst, AV.bool (bOut (bufCF (bC d8) (bW d8))).snd.snd.snd.snd.snd.snd.fst, AV.bool (bOut (bufCF (bC d8) (bW d8))).snd.snd.snd.snd.snd.snd.snd.fst], AV.int IntKind.i64 999] []) fun (d11 : Int × Int × Int × List UInt8 × (Bool × List (Int × List UInt8)) × Int × Bool × Bool × Int) =>
                          bK (!decide (validF (cOf d11) (nOf d11) = 2)) (some (Sum.inr (Ex.ret, { fr := [(4, AV.bool false), (5, AV.ptr 80 0 0 0)], bs := [(80, { v := 0, k := BK.box, fz := false, sz := 0, es := [AV.int IntKind.i64 (bOut (bufCF (bC d8) (bW d8))).fst, AV.int IntKind.i64 (bOut (bufCF (bC d8) (bW d8))).snd.fst, AV.int IntKind.i64 (bOut (bufCF (bC d8) (bW d8))).snd.snd.fst, AV.str (bOut (bufCF (bC d8) (bW d8))).snd.snd.snd.fst, AV.slc (bOut (bufCF (bC d8) (bW d8))).snd.snd.snd.snd.fst.fst (List.map (mkV true Write_tfs) (bOut (bufCF (bC d8) (bW d8))).snd.snd.snd.snd.fst.snd), AV.int IntKind.i64 (bOut (bufCF (bC d8) (bW d8))).snd.snd.snd.snd.snd.fst, AV.bool (bOut (bufCF (bC d8) (bW d8))).snd.snd.snd.snd.snd.snd.fst, AV.bool (bOut (bufCF (bC d8) (bW d8))).snd.snd.snd.snd.snd.snd.snd.fst] })], df := [] })))
                            (bK (decide ((↑(List.map (mkV true Write_tfs) (bOut (bufCF (bC d8) (bW d8))).snd.snd.snd.snd.fst.snd).length : Int) < (bOut (bufCF (bC d8) (bW d8))).snd.snd.snd.snd.snd.fst)) (some (Sum.inr (Ex.ret, { fr := [(4, AV.bool false), (5, AV.ptr 80 0 0 0)], bs := [(80, { v := 0, k := BK.box, fz := false, sz := 0, es := [AV.int IntKind.i64 (bOut (bufCF (bC d8) (bW d8))).fst, AV.int IntKind.i64 (bOut (bufCF (bC d8) (bW d8))).snd.fst, AV.int IntKind.i64 (bOut (bufCF (bC d8) (bW d8))).snd.snd.fst, AV.str (bOut (bufCF (bC d8) (bW d8))).snd.snd.snd.fst, AV.slc (bOut (bufCF (bC d8) (bW d8))).snd.snd.snd.snd.fst.fst (List.map (mkV true Write_tfs) (bOut (bufCF (bC d8) (bW d8))).snd.snd.snd.snd.fst.snd), AV.int IntKind.i64 (bOut (bufCF (bC d8) (bW d8))).snd.snd.snd.snd.snd.fst, AV.bool (bOut (bufCF (bC d8) (bW d8))).snd.snd.snd.snd.snd.snd.fst, AV.bool (bOut (bufCF (bC d8) (bW d8))).snd.snd.snd.snd.snd.snd.snd.fst] })], df := [] })))
                              (bK (decide (5 < (↑(List.map (mkV true Write_tfs) (bOut (bufCF (bC d8) (bW d8))).snd.snd.snd.snd.fst.snd).length : Int))) (some (Sum.inr (Ex.ret, { fr := [(4, AV.bool false), (5, AV.ptr 80 0 0 0)], bs := [(80, { v := 0, k := BK.box, fz := false, sz := 0, es := [AV.int IntKind.i64 (bOut (bufCF (bC d8) (bW d8))).fst, AV.int IntKind.i64 (bOut (bufCF (bC d8) (bW d8))).snd.fst, AV.int IntKind.i64 (bOut (bufCF (bC d8) (bW d8))).snd.snd.fst, AV.str (bOut (bufCF (bC d8) (bW d8))).snd.snd.snd.fst, AV.slc (bOut (bufCF (bC d8) (bW d8))).snd.snd.snd.snd.fst.fst (List.map (mkV true Write_tfs) (bOut (bufCF (bC d8) (bW d8))).snd.snd.snd.snd.fst.snd), AV.int IntKind.i64 (bOut (bufCF (bC d8) (bW d8))).snd.snd.snd.snd.snd.fst, AV.bool (bOut (bufCF (bC d8) (bW d8))).snd.snd.snd.snd.snd.snd.fst, AV.bool (bOut (bufCF (bC d8) (bW d8))).snd.snd.snd.snd.snd.snd.snd.fst] })], df := [] })))
                                (some (Sum.inl { fr := [(0, AV.slc x (List.map (mkV true [Lf.fi IntKind.u8, Lf.fi IntKind.u8, Lf.fi IntKind.u8]) l)), (5, AV.ptr 80 0 0 0), (6, AV.str (putB d9.fst d9.snd)), (7, AV.int IntKind.i64 (IntKind.i64.wrap (i + 1)))], bs := [(80, { v := 0, k := BK.box, fz := false, sz := 0, es := [AV.int IntKind.i64 (bOut (bufCF (bC d8) (bW d8))).fst, AV.int IntKind.i64 (bOut (bufCF (bC d8) (bW d8))).snd.fst, AV.int IntKind.i64 (bOut (bufCF (bC d8) (bW d8))).snd.snd.fst, AV.str (bOut (bufCF (bC d8) (bW d8))).snd.snd.snd.fst, AV.slc (bOut (bufCF (bC d8) (bW d8))).snd.snd.snd.snd.fst.fst (List.map (mkV true Write_tfs) (bOut (bufCF (bC d8) (bW d8))).snd.snd.snd.snd.fst.snd), AV.int IntKind.i64 (bOut (bufCF (bC d8) (bW d8))).snd.snd.snd.snd.snd.fst, AV.bool (bOut (bufCF (bC d8) (bW d8))).snd.snd.snd.snd.snd.snd.fst, AV.bool (bOut (bufCF (bC d8) (bW d8))).snd.snd.snd.snd.snd.snd.snd.fst] })], df := [] }))))))
                  (oK (viewCS.dec [AV.agg [AV.int IntKind.i64 (bOut (bufCF (bC d8) (bW d8))).fst, AV.int IntKind.i64 (bOut (bufCF (bC d8) (bW d8))).snd.fst, AV.int IntKind.i64 (bOut (bufCF (bC d8) (bW d8))).snd.snd.fst, AV.str (bOut (bufCF (bC d8) (bW d8))).snd.snd.snd.fst, AV.slc (bOut (bufCF (bC d8) (bW d8))).snd.snd.snd.snd.fst.fst (List.map (mkV true Write_tfs) (bOut (bufCF (bC d8) (bW d8))).snd.snd.snd.snd.fst.snd), AV.int IntKind.i64 (bOut (bufCF (bC d8) (bW d8))).snd.snd.snd.snd.snd.fst, AV.bool (bOut (bufCF (bC d8) (bW d8))).snd.snd.snd.snd.snd.snd.fst, AV.bool (bOut (bufCF (bC d8) (bW d8))).snd.snd.snd.snd.snd.snd.snd.fst]] []) fun (d12 : Int × Int × Int × List UInt8 × (Bool × List (Int × List UInt8)) × Int × Bool × Bool) =>
                    bK (!decide (allF (cA d12).snd.snd.snd.fst (dOf d12) = want)) (some (Sum.inr (Ex.ret, { fr := [(4, AV.bool false), (5, AV.ptr 80 0 0 0)], bs := [(80, { v := 0, k := BK.box, fz := false, sz := 0, es := [AV.int IntKind.i64 (bOut (bufCF (bC d8) (bW d8))).fst, AV.int IntKind.i64 (bOut (bufCF (bC d8) (bW d8))).snd.fst, AV.int IntKind.i64 (bOut (bufCF (bC d8) (bW d8))).snd.snd.fst, AV.str (bOut (bufCF (bC d8) (bW d8))).snd.snd.snd.fst, AV.slc (bOut (bufCF (bC d8) (bW d8))).snd.snd.snd.snd.fst.fst (List.map (mkV true Write_tfs) (bOut (bufCF (bC d8) (bW d8))).snd.snd.snd.snd.fst.snd), AV.int IntKind.i64 (bOut (bufCF (bC d8) (bW d8))).snd.snd.snd.snd.snd.fst, AV.bool (bOut (bufCF (bC d8) (bW d8))).snd.snd.snd.snd.snd.snd.fst, AV.bool (bOut (bufCF (bC d8) (bW d8))).snd.snd.snd.snd.snd.snd.snd.fst] })], df := [] })))
                      (oK (validS.dec [AV.agg [AV.int IntKind.i64 (bOut (bufCF (bC d8) (bW d8))).fst, AV.int IntKind.i64 (bOut (bufCF (bC d8) (bW d8))).snd.fst, AV.int IntKind.i64 (bOut (bufCF (bC d8) (bW d8))).snd.snd.fst, AV.str (bOut (bufCF (bC d8) (bW d8))).snd.snd.snd.fst, AV.slc (bOut (bufCF (bC d8) (bW d8))).snd.snd.snd.snd.fst.fst (List.map (mkV true Write_tfs) (bOut (bufCF (bC d8) (bW d8))).snd.snd.snd.snd.fst.snd), AV.int IntKind.i64 (bOut (bufCF (bC d8) (bW d8))).snd.snd.snd.snd.snd.fst, AV.bool (bOut (bufCF (bC d8) (bW d8))).snd.snd.snd.snd.snd.snd.fst, AV.bool (bOut (bufCF (bC d8) (bW d8))).snd.snd.snd.snd.snd.snd.snd.fst], AV.int IntKind.i64 999] []) fun (d13 : Int × Int × Int × List UInt8 × (Bool × List (Int × List UInt8)) × Int × Bool × Bool × Int) =>
                        bK (!decide (validF (cOf d13) (nOf d13) = 2)) (some (Sum.inr (Ex.ret, { fr := [(4, AV.bool false), (5, AV.ptr 80 0 0 0)], bs := [(80, { v := 0, k := BK.box, fz := false, sz := 0, es := [AV.int IntKind.i64 (bOut (bufCF (bC d8) (bW d8))).fst, AV.int IntKind.i64 (bOut (bufCF (bC d8) (bW d8))).snd.fst, AV.int IntKind.i64 (bOut (bufCF (bC d8) (bW d8))).snd.snd.fst, AV.str (bOut (bufCF (bC d8) (bW d8))).snd.snd.snd.fst, AV.slc (bOut (bufCF (bC d8) (bW d8))).snd.snd.snd.snd.fst.fst (List.map (mkV true Write_tfs) (bOut (bufCF (bC d8) (bW d8))).snd.snd.snd.snd.fst.snd), AV.int IntKind.i64 (bOut (bufCF (bC d8) (bW d8))).snd.snd.snd.snd.snd.fst, AV.bool (bOut (bufCF (bC d8) (bW d8))).snd.snd.snd.snd.snd.snd.fst, AV.bool (bOut (bufCF (bC d8) (bW d8))).snd.snd.snd.snd.snd.snd.snd.fst] })], df := [] })))
                          (bK (decide ((↑(List.map (mkV true Write_tfs) (bOut (bufCF (bC d8) (bW d8))).snd.snd.snd.snd.fst.snd).length : Int) < (bOut (bufCF (bC d8) (bW d8))).snd.snd.snd.snd.snd.fst)) (some (Sum.inr (Ex.ret, { fr := [(4, AV.bool false), (5, AV.ptr 80 0 0 0)], bs := [(80, { v := 0, k := BK.box, fz := false, sz := 0, es := [AV.int IntKind.i64 (bOut (bufCF (bC d8) (bW d8))).fst, AV.int IntKind.i64 (bOut (bufCF (bC d8) (bW d8))).snd.fst, AV.int IntKind.i64 (bOut (bufCF (bC d8) (bW d8))).snd.snd.fst, AV.str (bOut (bufCF (bC d8) (bW d8))).snd.snd.snd.fst, AV.slc (bOut (bufCF (bC d8) (bW d8))).snd.snd.snd.snd.fst.fst (List.map (mkV true Write_tfs) (bOut (bufCF (bC d8) (bW d8))).snd.snd.snd.snd.fst.snd), AV.int IntKind.i64 (bOut (bufCF (bC d8) (bW d8))).snd.snd.snd.snd.snd.fst, AV.bool (bOut (bufCF (bC d8) (bW d8))).snd.snd.snd.snd.snd.snd.fst, AV.bool (bOut (bufCF (bC d8) (bW d8))).snd.snd.snd.snd.snd.snd.snd.fst] })], df := [] })))
                            (bK (decide (5 < (↑(List.map (mkV true Write_tfs) (bOut (bufCF (bC d8) (bW d8))).snd.snd.snd.snd.fst.snd).length : Int))) (some (Sum.inr (Ex.ret, { fr := [(4, AV.bool false), (5, AV.ptr 80 0 0 0)], bs := [(80, { v := 0, k := BK.box, fz := false, sz := 0, es := [AV.int IntKind.i64 (bOut (bufCF (bC d8) (bW d8))).fst, AV.int IntKind.i64 (bOut (bufCF (bC d8) (bW d8))).snd.fst, AV.int IntKind.i64 (bOut (bufCF (bC d8) (bW d8))).snd.snd.fst, AV.str (bOut (bufCF (bC d8) (bW d8))).snd.snd.snd.fst, AV.slc (bOut (bufCF (bC d8) (bW d8))).snd.snd.snd.snd.fst.fst (List.map (mkV true Write_tfs) (bOut (bufCF (bC d8) (bW d8))).snd.snd.snd.snd.fst.snd), AV.int IntKind.i64 (bOut (bufCF (bC d8) (bW d8))).snd.snd.snd.snd.snd.fst, AV.bool (bOut (bufCF (bC d8) (bW d8))).snd.snd.snd.snd.snd.snd.fst, AV.bool (bOut (bufCF (bC d8) (bW d8))).snd.snd.snd.snd.snd.snd.snd.fst] })], df := [] })))
                              (some (Sum.inl { fr := [(0, AV.slc x (List.map (mkV true [Lf.fi IntKind.u8, Lf.fi IntKind.u8, Lf.fi IntKind.u8]) l)), (5, AV.ptr 80 0 0 0), (6, AV.str want), (7, AV.int IntKind.i64 (IntKind.i64.wrap (i + 1)))], bs := [(80, { v := 0, k := BK.box, fz := false, sz := 0, es := [AV.int IntKind.i64 (bOut (bufCF (bC d8) (bW d8))).fst, AV.int IntKind.i64 (bOut (bufCF (bC d8) (bW d8))).snd.fst, AV.int IntKind.i64 (bOut (bufCF (bC d8) (bW d8))).snd.snd.fst, AV.str (bOut (bufCF (bC d8) (bW d8))).snd.snd.snd.fst, AV.slc (bOut (bufCF (bC d8) (bW d8))).snd.snd.snd.snd.fst.fst (List.map (mkV true Write_tfs) (bOut (bufCF (bC d8) (bW d8))).snd.snd.snd.snd.fst.snd), AV.int IntKind.i64 (bOut (bufCF (bC d8) (bW d8))).snd.snd.snd.snd.snd.fst, AV.bool (bOut (bufCF (bC d8) (bW d8))).snd.snd.snd.snd.snd.snd.fst, AV.bool (bOut (bufCF (bC d8) (bW d8))).snd.snd.snd.snd.snd.snd.snd.fst] })], df := [] }))))))))))
  (some (Sum.inr (Ex.exit 0, { fr := [(5, AV.ptr 80 0 0 0)], bs := [(80, { v := 0, k := BK.box, fz := false, sz := 0, es := [AV.int IntKind.i64 c.fst, AV.int IntKind.i64 c.snd.fst, AV.int IntKind.i64 c.snd.snd.fst, AV.str c.snd.snd.snd.fst, AV.slc c.snd.snd.snd.snd.fst.fst (List.map (mkV true Write_tfs) c.snd.snd.snd.snd.fst.snd), AV.int IntKind.i64 c.snd.snd.snd.snd.snd.fst, AV.bool c.snd.snd.snd.snd.snd.snd.fst, AV.bool c.snd.snd.snd.snd.snd.snd.snd] })], df := [] })))
theorem rd_s_w (x : Bool) (l : List B3) (c : Cache_T) (want : List UInt8) (i : Int) : rd_s x l c want i = rd_s_r x l c want i := by kernel_rfl

def RdInv (c : Cache_T) (want : List UInt8) : Prop := c.1 = 2 ∧ c.2.1 = 1000 ∧ (dOf c).length ≤ 5 ∧ c.2.2.2.1.length ≤ 24 ∧ c.2.2.2.2.2.1 ≤ ((dOf c).length : Int) ∧ c.2.2.2.2.2.2.2 = false ∧ allF c.2.2.2.1 (dOf c) = want
theorem rd_tail {R : Type} (c : Cache_T) (want : List UInt8) (h : RdInv c want) {A1 A2 A3 A4 K : Option R} {Q : Option R → Prop} (hz : Q K) : Q (oK (viewCS.dec (viewCS.args c) []) fun d1 => bK (!decide (allF (cA d1).2.2.2.1 (dOf d1) = want)) A1 (oK (validS.dec (validS.args (lapD c 999)) []) fun d2 => bK (!decide (validF (cOf d2) (nOf d2) = 2)) A2 (bK (decide (((List.map (mkV true Write_tfs) c.2.2.2.2.1.2).length : Int) < c.2.2.2.2.2.1)) A3 (bK (decide (5 < ((List.map (mkV true Write_tfs) c.2.2.2.2.1.2).length : Int))) A4 K)))) := by
  obtain ⟨h1, h2, h3, h4, h5, h6, h7⟩ := h
  refine oK_view c ⟨h3, h4⟩ ?_
  refine bK_fq (congrArg (!·) (decide_eq_true h7)) ?_
  refine oK_val c 999 ?_
  refine bK_fq (congrArg (!·) (decide_eq_true ?_)) ?_
  · show validF c 999 = 2
    unfold validF
    rw [if_pos (by rw [h2]; decide), h1]
  · have h3' : c.2.2.2.2.1.2.length ≤ 5 := h3
    have h5' : c.2.2.2.2.2.1 ≤ (c.2.2.2.2.1.2.length : Int) := h5
    refine bK_fq (decide_eq_false ?_) (bK_fq (decide_eq_false ?_) hz)
    · rw [List.length_map]; omega
    · rw [List.length_map]; omega
theorem rd_done {c : Cache_T} {want : List UInt8} (h : RdInv c want) (v : Int) : RdInv (doneCF c v) want ∧ (doneCF c v).2.2.2.2.2.1 = 0 ∧ (doneCF c v).2.2.1 = v := by
  obtain ⟨h1, h2, h3, h4, h5, h6, h7⟩ := h
  have e : doneCF c v = doneY c v (c.2.2.2.2.1.2.drop (dN c.2.2.2.2.2.1 c.2.2.2.2.1.2.length)).isEmpty := by
    unfold doneCF
    rw [if_pos h1]
  rw [e]
  have h3' : c.2.2.2.2.1.2.length ≤ 5 := h3
  refine ⟨⟨h1, h2, ?_, allB_le h4 _, ?_, h6, ?_⟩, rfl, rfl⟩
  · show (c.2.2.2.2.1.2.drop _).length ≤ 5
    rw [List.length_drop]; omega
  · show (0 : Int) ≤ _
    exact Int.natCast_nonneg _
  · rw [← h7]
    show allB (allB c.2.2.2.1 (c.2.2.2.2.1.2.take _)) (c.2.2.2.2.1.2.drop _) = allB c.2.2.2.1 c.2.2.2.2.1.2
    unfold allB
    rw [← List.foldl_append, List.take_append_drop]
theorem rd_add {c : Cache_T} {want : List UInt8} (h : RdInv c want) {w : Write_T} (hl : (dOf c).length ≤ 4) : RdInv (addW c w) (putB want w) := by
  obtain ⟨h1, h2, h3, h4, h5, h6, h7⟩ := h
  have hl' : c.2.2.2.2.1.2.length ≤ 4 := hl
  have h5' : c.2.2.2.2.2.1 ≤ (c.2.2.2.2.1.2.length : Int) := h5
  refine ⟨h1, h2, ?_, h4, ?_, h6, ?_⟩
  · show (c.2.2.2.2.1.2 ++ [w]).length ≤ 5
    simp; omega
  · show c.2.2.2.2.2.1 ≤ ((c.2.2.2.2.1.2 ++ [w]).length : Int)
    simp; omega
  · rw [← h7]
    show allB c.2.2.2.1 (c.2.2.2.2.1.2 ++ [w]) = putB (allB c.2.2.2.1 c.2.2.2.2.1.2) w
    unfold allB
    rw [List.foldl_append]
    rfl
def rdGood (x : Bool) (l : List B3) (i : Int) (r : Option (St ⊕ (Ex × St))) : Prop := ∃ y : Cache_T × List UInt8, RdInv y.1 y.2 ∧ r = some (.inl (rdHd x l y.1 y.2 (i + 1)))
theorem rdG {x : Bool} {l : List B3} {i : Int} {c : Cache_T} {want : List UInt8} (h : RdInv c want) : rdGood x l i (some (.inl (rdHd x l c want (i + 1)))) := ⟨(c, want), h, rfl⟩
theorem rd_step (x : Bool) (l : List B3) (c : Cache_T) (want : List UInt8) (i : Nat) (hi : i < l.length) (hl : l.length ≤ 15) (hb : ∀ v ∈ l, 0 ≤ v.2.1 ∧ v.2.1 < 256) (h : RdInv c want) : rdGood x l i (rd_s_r x l c want i) := by
  unfold rd_s_r
  have e1 : IntKind.i64.wrap ((i : Int) + 1) = (i : Int) + 1 := w64 (by omega) (by omega)
  rw [e1]
  have hi' : (i : Int).toNat < l.length := by omega
  refine bK_tq (by rw [List.length_map]; exact decide_eq_true (by omega)) ?_
  refine oK_atq (0, 0, 0) (by omega) hi' ?_
  have hv : 0 ≤ (l.getD (i : Int).toNat (0, 0, 0)).2.1 := by rw [getD_at hi']; exact (hb _ (List.getElem_mem hi')).1
  have h' := h
  obtain ⟨h1, h2, h3, h4, h5, h6, h7⟩ := h
  have h3' : c.2.2.2.2.1.2.length ≤ 5 := h3
  refine bK_iq (fun c1 => ?_) (fun c1 => bK_iq (fun c2 => ?_) (fun c2 => ?_))
  · have hI : RdInv (c.1, c.2.1, c.2.2.1, c.2.2.2.1, c.2.2.2.2.1, ((List.map (mkV true Write_tfs) c.2.2.2.2.1.2).length : Int), c.2.2.2.2.2.2.1, c.2.2.2.2.2.2.2) want := ⟨h1, h2, h3, h4, by rw [List.length_map]; exact Int.le_refl _, h6, h7⟩
    exact rd_tail _ want hI (rdG hI)
  · refine oK_fsq doneS (lapD c (IntKind.i64.wrap (2 + (i : Int)))) ⟨h4, by show c.2.2.2.2.1.2.length ≤ 1000; omega⟩ ?_
    obtain ⟨hI, d1, d2⟩ := rd_done h' (IntKind.i64.wrap (2 + (i : Int)))
    refine bK_fq (congrArg (!·) (decide_eq_true d1)) (bK_fq (congrArg (!·) (decide_eq_true d2)) ?_)
    exact rd_tail _ want hI (rdG hI)
  · refine oK_atq (0, 0, 0) (by omega) hi' ?_
    refine oK_atq (0, 0, 0) (by omega) hi' ?_
    generalize hv' : l.getD (i : Int).toNat (0, 0, 0) = v at hv ⊢
    have o1 : 0 ≤ Int.tmod v.2.1 20 := Int.tmod_nonneg _ hv
    have o2 : Int.tmod v.2.1 20 < 20 := Int.tmod_lt_of_pos _ (by decide)
    have hm : mayB (IntKind.i64.wrap (Int.tmod v.2.1 20), [UInt8.ofNat (IntKind.u8.wrap (97 + Int.tmod v.2.2 26)).toNat]) := by
      rw [w64 (by omega) (by omega)]
      exact ⟨o1, by simp, by simp, by show Int.tmod v.2.1 20 ≤ 24 - ((1 : Nat) : Int); omega⟩
    generalize IntKind.i64.wrap (Int.tmod v.2.1 20) = off at hm ⊢
    generalize [UInt8.ofNat (IntKind.u8.wrap (97 + Int.tmod v.2.2 26)).toNat] = bs at hm ⊢
    refine oK_buf c (off, bs) (by show c.2.2.2.2.1.2.length ≤ 1000; omega) ?_
    by_cases hk : c.2.2.2.2.1.2.length ≤ 4
    · have hy : bufCF (bC (bufD c (off, bs))) (bW (bufD c (off, bs))) = (addW c (off, bs), true) := by
        show bufCF c (off, bs) = _
        unfold bufCF
        rw [if_pos ⟨hk, h1, hm⟩]
      rw [hy]
      have hI := rd_add h' (w := (off, bs)) hk
      refine bK_fq ?_ (bK_tq rfl ?_)
      · rw [List.length_map, decide_eq_true (show (c.2.2.2.2.1.2.length : Int) < 5 by omega)]
        rfl
      · have hwl : want.length ≤ 1000 := by rw [← h7]; exact Nat.le_trans (allB_le h4 _) (by decide)
        refine oK_fsq putRS (want, (off, bs)) hwl ?_
        exact rd_tail _ _ hI (rdG hI)
    · have hy : bufCF (bC (bufD c (off, bs))) (bW (bufD c (off, bs))) = (twinF c, false) := by
        show bufCF c (off, bs) = _
        unfold bufCF
        rw [if_neg (fun hh => hk hh.1)]
      rw [hy]
      have hI : RdInv (twinF c) want := h'
      refine bK_fq ?_ (bK_fq rfl ?_)
      · rw [List.length_map, decide_eq_false (show ¬ (c.2.2.2.2.1.2.length : Int) < 5 by omega)]
        rfl
      · exact rd_tail _ want hI (rdG hI)
def rdEnd (c : Cache_T) : St := { fr := [(5, .ptr 80 0 0 0)], bs := [(80, boxB (Tu.mk Cache_tfs c))], df := [] }
theorem loops4 : (loopsOf 0 (codeOf Try.prog 4)).map (·.1) = [0] := by kernel_rfl
theorem one4 : OneLoops Try.prog 4 := by unfold OneLoops; rw [loops4]; decide
theorem at4 : At 0 (codeOf Try.prog 4) 0 (.loop (bodyAt Try.prog 4 0)) := at_body one4 (by rw [loops4]; decide)
theorem rd_run (x : Bool) (l : List B3) (hl : l.length ≤ 15) (hb : ∀ v ∈ l, 0 ≤ v.2.1 ∧ v.2.1 < 256) : ∀ (k i : Nat), i + k = l.length → ∀ (c : Cache_T) (want : List UInt8), RdInv c want → ∀ m, k < m →
    ∃ y : Cache_T × List UInt8, RdInv y.1 y.2 ∧ Runs' Try.prog cfg PKg3 4 0 m (rdHd x l c want i) (.exit 0, rdEnd y.1)
  | 0, i, hi, c, want, hc, m + 1, hm => by
    refine ⟨(c, want), hc, Runs'.done (lp := LP0) LPok.none at4 ((rd_s_w x l c want i).trans ?_)⟩
    unfold rd_s_r
    rw [bK_neg (by rw [List.length_map]; exact decide_eq_false (by omega))]
    rfl
  | k + 1, i, hi, c, want, hc, m + 1, hm => by
    obtain ⟨y, h1, he⟩ := rd_step x l c want i (by omega) hl hb hc
    obtain ⟨z, h2, h3⟩ := rd_run x l hl hb k (i + 1) (by omega) y.1 y.2 h1 m (by omega)
    exact ⟨z, h2, Runs'.step (lp := LP0) LPok.none at4 ((rd_s_w x l c want i).trans he) h3⟩
abbrev RdD : Type := Bool × List B3 × Cache_T × List UInt8
def rdH (d : RdD) : St := rdHd d.1 d.2.1 d.2.2.1 d.2.2.2 0
def rdP (d : RdD) : Prop := d.2.1.length ≤ 15 ∧ (∀ v ∈ d.2.1, 0 ≤ v.2.1 ∧ v.2.1 < 256) ∧ RdInv d.2.2.1 d.2.2.2
theorem rd_ex (d : RdD) (h : rdP d) : ∃ y : Cache_T × List UInt8, RdInv y.1 y.2 ∧ Runs' Try.prog cfg PKg3 4 0 rounds (rdH d) (.exit 0, rdEnd y.1) :=
  rd_run d.1 d.2.1 h.1 h.2.1 d.2.1.length 0 (by omega) d.2.2.1 d.2.2.2 h.2.2 rounds (by have := h.1; simp only [rounds]; omega)
/-- What is held behind all. -/
noncomputable def rdR (d : RdD) : Cache_T × List UInt8 := open Classical in if h : rdP d then Classical.choose (rd_ex d h) else (d.2.2.1, d.2.2.2)
theorem rdR_spec (d : RdD) (h : rdP d) : RdInv (rdR d).1 (rdR d).2 ∧ Runs' Try.prog cfg PKg3 4 0 rounds (rdH d) (.exit 0, rdEnd (rdR d).1) := by
  unfold rdR
  rw [dif_pos h]
  exact Classical.choose_spec (rd_ex d h)
noncomputable def rdL : LP := LP.of (D := RdD) rdH rdP fun d => .leaf (.exit 0, rdEnd (rdR d).1)
noncomputable def LPrd : LPs := LPs.add LP0 4 0 rdL
theorem LPrd_ok : LPok Try.prog cfg PKg3 LPrd 4 := LPok.addH LPok.none one4 fun d h => (rdR_spec d h).2
theorem rdH_inj (d d' : RdD) (h : rdH d = rdH d') : d = d' := by
  obtain ⟨x, l, c, w⟩ := d
  obtain ⟨x', l', c', w'⟩ := d'
  simp only [rdH, rdHd, boxB, St.mk.injEq, List.cons.injEq, Prod.mk.injEq, AV.slc.injEq, AV.str.injEq, Blk.mk.injEq, and_true, true_and] at h
  obtain ⟨⟨⟨h1, h2⟩, h3⟩, h4⟩ := h
  rw [h1, map_inj (fs := B3_fs) rfl h2, h3, mk_inj (fs := Cache_tfs) rfl h4]
abbrev cacheReads_id : Nat := 4
abbrev cacheReads_sh : Shp := [none, none]
abbrev cacheReads_fs : List Lf := [.fl true [.fi .u8, .fi .u8, .fi .u8], .fs]
abbrev cacheReads_rsh : Shp := [none]
abbrev cacheReads_rfs : List Lf := [.fb]
noncomputable def cacheReads_r (l_x : Bool) (l : List (Int × Int × Int)) (body : List UInt8) : Option Ret :=
  oK (begunS.dec [] []) fun (d0 : PUnit) =>
  bK (decide (15 < (↑(List.map (mkV true [Lf.fi IntKind.u8, Lf.fi IntKind.u8, Lf.fi IntKind.u8]) l).length : Int))) (some { pan := false, res := AV.bool true, out := [], new := [] })
    (bK (decide (24 < (↑body.length : Int))) (some { pan := false, res := AV.bool true, out := [], new := [] })
      (oK (letCS.dec [AV.agg [AV.int IntKind.i64 0, AV.int IntKind.i64 0, AV.int IntKind.i64 0, AV.str [], AV.slc true [], AV.int IntKind.i64 0, AV.bool false, AV.bool false], AV.int IntKind.i64 2, AV.int IntKind.i64 1000, AV.int IntKind.i64 1, AV.str body] []) fun (d1 : Int × Int × Int × List UInt8 × (Bool × List (Int × List UInt8)) × Int × Bool × Bool × Int × Int × Int × List UInt8) =>
        oK (rdL.dec { fr := [(0, AV.slc l_x (List.map (mkV true [Lf.fi IntKind.u8, Lf.fi IntKind.u8, Lf.fi IntKind.u8]) l)), (5, AV.ptr 80 0 0 0), (6, AV.str body), (7, AV.int IntKind.i64 0)], bs := [(80, { v := 0, k := BK.box, fz := false, sz := 0, es := [AV.int IntKind.i64 d1.snd.snd.snd.snd.snd.snd.snd.snd.fst, AV.int IntKind.i64 d1.snd.snd.snd.snd.snd.snd.snd.snd.snd.fst, AV.int IntKind.i64 d1.snd.snd.snd.snd.snd.snd.snd.snd.snd.snd.fst, AV.str d1.snd.snd.snd.snd.snd.snd.snd.snd.snd.snd.snd, AV.slc d1.snd.snd.snd.snd.fst.snd.isEmpty (List.map (mkV true Write_tfs) d1.snd.snd.snd.snd.fst.snd), AV.int IntKind.i64 d1.snd.snd.snd.snd.snd.fst, AV.bool false, AV.bool d1.snd.snd.snd.snd.snd.snd.snd.fst] })], df := [] }) fun (d2 : Bool × List (Int × Int × Int) × (Int × Int × Int × List UInt8 × (Bool × List (Int × List UInt8)) × Int × Bool × Bool) × List UInt8) =>
          oK (lapseS.dec [AV.agg [AV.int IntKind.i64 (rdR d2).fst.fst, AV.int IntKind.i64 (rdR d2).fst.snd.fst, AV.int IntKind.i64 (rdR d2).fst.snd.snd.fst, AV.str (rdR d2).fst.snd.snd.snd.fst, AV.slc (rdR d2).fst.snd.snd.snd.snd.fst.fst (List.map (mkV true Write_tfs) (rdR d2).fst.snd.snd.snd.snd.fst.snd), AV.int IntKind.i64 (rdR d2).fst.snd.snd.snd.snd.snd.fst, AV.bool (rdR d2).fst.snd.snd.snd.snd.snd.snd.fst, AV.bool (rdR d2).fst.snd.snd.snd.snd.snd.snd.snd], AV.int IntKind.i64 1000] []) fun (d3 : Int × Int × Int × List UInt8 × (Bool × List (Int × List UInt8)) × Int × Bool × Bool × Int) =>
            bK ((lapseF (cOf d3) (nOf d3)).snd.snd.snd.snd.snd.snd.snd == decide (0 < (↑(List.map (mkV true Write_tfs) (rdR d2).fst.snd.snd.snd.snd.fst.snd).length : Int)))
              (oK (validS.dec [AV.agg [AV.int IntKind.i64 (lapseF (cOf d3) (nOf d3)).fst, AV.int IntKind.i64 (lapseF (cOf d3) (nOf d3)).snd.fst, AV.int IntKind.i64 (lapseF (cOf d3) (nOf d3)).snd.snd.fst, AV.str (lapseF (cOf d3) (nOf d3)).snd.snd.snd.fst, AV.slc (lapseF (cOf d3) (nOf d3)).snd.snd.snd.snd.fst.fst (List.map (mkV true Write_tfs) (lapseF (cOf d3) (nOf d3)).snd.snd.snd.snd.fst.snd), AV.int IntKind.i64 (lapseF (cOf d3) (nOf d3)).snd.snd.snd.snd.snd.fst, AV.bool (lapseF (cOf d3) (nOf d3)).snd.snd.snd.snd.snd.snd.fst, AV.bool (lapseF (cOf d3) (nOf d3)).snd.snd.snd.snd.snd.snd.snd], AV.int IntKind.i64 0] []) fun (d4 : Int × Int × Int × List UInt8 × (Bool × List (Int × List UInt8)) × Int × Bool × Bool × Int) =>
                bK (decide (validF (cOf d4) (nOf d4) = 0))
                  (bK (decide ((↑(List.map (mkV true Write_tfs) (lapseF (cOf d3) (nOf d3)).snd.snd.snd.snd.fst.snd).length : Int) = 0))
                    (oK (viewCS.dec [AV.agg [AV.int IntKind.i64 (lapseF (cOf d3) (nOf d3)).fst, AV.int IntKind.i64 (lapseF (cOf d3) (nOf d3)).snd.fst, AV.int IntKind.i64 (lapseF (cOf d3) (nOf d3)).snd.snd.fst, AV.str (lapseF (cOf d3) (nOf d3)).snd.snd.snd.fst, AV.slc (lapseF (cOf d3) (nOf d3)).snd.snd.snd.snd.fst.fst (List.map (mkV true Write_tfs) (lapseF (cOf d3) (nOf d3)).snd.snd.snd.snd.fst.snd), AV.int IntKind.i64 (lapseF (cOf d3) (nOf d3)).snd.snd.snd.snd.snd.fst, AV.bool (lapseF (cOf d3) (nOf d3)).snd.snd.snd.snd.snd.snd.fst, AV.bool (lapseF (cOf d3) (nOf d3)).snd.snd.snd.snd.snd.snd.snd]] []) fun (d5 : Int × Int × Int × List UInt8 × (Bool × List (Int × List UInt8)) × Int × Bool × Bool) =>
                      bK (decide (allF (cA d5).snd.snd.snd.fst (dOf d5) = []))
                        (oK (lapseS.dec [AV.agg [AV.int IntKind.i64 (rdR d2).fst.fst, AV.int IntKind.i64 (rdR d2).fst.snd.fst, AV.int IntKind.i64 (rdR d2).fst.snd.snd.fst, AV.str (rdR d2).fst.snd.snd.snd.fst, AV.slc (rdR d2).fst.snd.snd.snd.snd.fst.fst (List.map (mkV true Write_tfs) (rdR d2).fst.snd.snd.snd.snd.fst.snd), AV.int IntKind.i64 (rdR d2).fst.snd.snd.snd.snd.snd.fst, AV.bool (rdR d2).fst.snd.snd.snd.snd.snd.snd.fst, AV.bool (rdR d2).fst.snd.snd.snd.snd.snd.snd.snd], AV.int IntKind.i64 999] []) fun (d6 : Int × Int × Int × List UInt8 × (Bool × List (Int × List UInt8)) × Int × Bool × Bool × Int) =>
                          oK (sameCS.dec [AV.agg [AV.int IntKind.i64 (lapseF (cOf d6) (nOf d6)).fst, AV.int IntKind.i64 (lapseF (cOf d6) (nOf d6)).snd.fst, AV.int IntKind.i64 (lapseF (cOf d6) (nOf d6)).snd.snd.fst, AV.str (lapseF (cOf d6) (nOf d6)).snd.snd.snd.fst, AV.slc (lapseF (cOf d6) (nOf d6)).snd.snd.snd.snd.fst.fst (List.map (mkV true Write_tfs) (lapseF (cOf d6) (nOf d6)).snd.snd.snd.snd.fst.snd), AV.int IntKind.i64 (lapseF (cOf d6) (nOf d6)).snd.snd.snd.snd.snd.fst, AV.bool (lapseF (cOf d6) (nOf d6)).snd.snd.snd.snd.snd.snd.fst, AV.bool (lapseF (cOf d6) (nOf d6)).snd.snd.snd.snd.snd.snd.snd], AV.agg [AV.int IntKind.i64 (rdR d2).fst.fst, AV.int IntKind.i64 (rdR d2).fst.snd.fst, AV.int IntKind.i64 (rdR d2).fst.snd.snd.fst, AV.str (rdR d2).fst.snd.snd.snd.fst, AV.slc (rdR d2).fst.snd.snd.snd.snd.fst.fst (List.map (mkV true Write_tfs) (rdR d2).fst.snd.snd.snd.snd.fst.snd), AV.int IntKind.i64 (rdR d2).fst.snd.snd.snd.snd.snd.fst, AV.bool (rdR d2).fst.snd.snd.snd.snd.snd.snd.fst, AV.bool (rdR d2).fst.snd.snd.snd.snd.snd.snd.snd]] []) fun (d7 : Int × Int × Int × List UInt8 × (Bool × List (Int × List UInt8)) × Int × Bool × Bool × Int × Int × Int × List UInt8 × (Bool × List (Int × List UInt8)) × Int × Bool × Bool) => some { pan := false, res := AV.bool (sameCF (sA d7) (sB d7)), out := [], new := [] })
                        (some { pan := false, res := AV.bool false, out := [], new := [] }))
                    (some { pan := false, res := AV.bool false, out := [], new := [] }))
                  (some { pan := false, res := AV.bool false, out := [], new := [] }))
              (some { pan := false, res := AV.bool false, out := [], new := [] })))
theorem cacheReads_w (l_x : Bool) (l : List (Int × Int × Int)) (body : List UInt8) : unitQ Try.prog cfg PKg3 LPrd true 4 (groupA cacheReads_sh (Tu.mk cacheReads_fs ((l_x, l), body))) [] = cacheReads_r l_x l body := by kernel_rfl

theorem cacheReads_yes (l_x : Bool) (l : List (Int × Int × Int)) (body : List UInt8) (h : Tu.wf cacheReads_fs ((l_x, l), body)) : Yes (cacheReads_r l_x l body) := by
  have hb : ∀ v ∈ l, (0 : Int) ≤ v.2.1 ∧ v.2.1 < 256 := fun v hv => by
    have hh : (0 : Int) ≤ v.2.1 ∧ v.2.1 ≤ 255 := (h.1.2 v hv).2.1
    omega
  unfold cacheReads_r
  refine oK_fsq begunS () trivial ?_
  refine bK_iq (fun _ => yes_leaf) (fun c1 => bK_iq (fun _ => yes_leaf) (fun c2 => ?_))
  have hlen : l.length ≤ 15 := by rw [List.length_map] at c1; omega
  refine oK_fsq letCS (0, 0, 0, [], (true, []), 0, false, false, 2, 1000, 1, body) (by show ([] : List Write_T).length ≤ 100000; simp) ?_
  have hp : rdP (l_x, l, (2, 1000, 1, body, (true, []), 0, false, false), body) := ⟨hlen, hb, rfl, rfl, by show ([] : List Write_T).length ≤ 5; simp, by show body.length ≤ 24; omega, by show (0 : Int) ≤ _; exact Int.natCast_nonneg _, rfl, rfl⟩
  refine oK_lpq rdH_inj (l_x, l, (2, 1000, 1, body, (true, []), 0, false, false), body) hp ?_
  have hs := (rdR_spec _ hp).1
  generalize rdR (l_x, l, (2, 1000, 1, body, (true, []), 0, false, false), body) = z at hs ⊢
  obtain ⟨c, want⟩ := z
  simp only at hs
  obtain ⟨h1, h2, h3, h4, h5, h6, h7⟩ := hs
  have h3' : c.2.2.2.2.1.2.length ≤ 5 := h3
  have hl : (dOf c).length ≤ 100000 := by omega
  have e : lapseF c 1000 = resetF c := lapseF_over (by rw [h1, h2]; decide)
  have e9 : lapseF c 999 = twinF c := lapseF_keep (.inr (by rw [h2]; decide))
  refine oK_lap c 1000 hl ?_
  refine bK_tq ?_ ?_
  · show ((lapseF c 1000).2.2.2.2.2.2.2 == _) = true
    rw [e, List.length_map]
    show ((c.2.2.2.2.2.2.2 || decide (0 < (c.2.2.2.2.1.2.length : Int))) == _) = true
    rw [h6, Bool.false_or]
    exact beq_self_eq_true _
  refine oK_val (lapseF c 1000) 0 ?_
  refine bK_tq (decide_eq_true ?_) ?_
  · show validF (lapseF c 1000) 0 = 0
    rw [e]; rfl
  refine bK_tq (decide_eq_true ?_) ?_
  · show ((List.map (mkV true Write_tfs) (lapseF c 1000).2.2.2.2.1.2).length : Int) = 0
    rw [e]; rfl
  refine oK_view (lapseF c 1000) (by rw [e]; exact ⟨by show ([] : List Write_T).length ≤ 5; simp, by show ([] : List UInt8).length ≤ 24; simp⟩) ?_
  refine bK_tq (decide_eq_true ?_) ?_
  · show allF (lapseF c 1000).2.2.2.1 (lapseF c 1000).2.2.2.2.1.2 = []
    rw [e]; rfl
  refine oK_lap c 999 hl ?_
  refine oK_sam (lapseF c 999) c (lapseF_len hl) ?_
  refine yes_of (same_of ?_)
  show normC (lapseF c 999) = normC c
  rw [e9]
  rfl

end Go.Proofs.Ytlhnpfpdjlcakaa
