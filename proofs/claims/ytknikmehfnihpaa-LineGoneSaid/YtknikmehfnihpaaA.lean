/- A part of the proof: contracts of functions. -/
import Derived.Test.YtknikmehfnihpaaS
import Derived.Test.YtknikmehfnihpaaAbAny

set_option linter.unusedVariables false
set_option linter.unusedSimpArgs false
set_option maxRecDepth 100000
namespace Go.Proofs.Ytknikmehfnihpaa
open Go Go.Ab
def begunS : FS := ⟨[], [], [none], [.fb], fun _ => True, fun _ => true, none⟩
theorem begun_e : evF Try.prog (cfg.with PKs0) 21 7 [] [] = some { pan := false, res := .bool true, out := [], new := [] } := by kernel_rfl
theorem begunO : ∀ d : Tu begunS.fs, begunS.pre d → CallOk Try.prog 7 (begunS.args d) [] (begunS.ret d) := fun _ _ => ⟨(fnOk PKs0_ok 21).there begun_e, (fnOk PKs0_ok 21).ok begun_e⟩
noncomputable def A1 : PKs := PKz.add 7 begunS.pk
theorem A1_ok : PKsOk Try.prog A1 := PKsOk.anyF PKz_ok 7 begunS begunO
noncomputable def A2 : PKs := A1.add 8 putS.pk
theorem A2_ok : PKsOk Try.prog A2 := PKsOk.anyF A1_ok 8 putS putO
noncomputable def A3 : PKs := A2.add 9 putRS.pk
theorem A3_ok : PKsOk Try.prog A3 := PKsOk.anyF A2_ok 9 putRS putRO
noncomputable def A4 : PKs := A3.add 10 dropS.pk
theorem A4_ok : PKsOk Try.prog A4 := PKsOk.anyF A3_ok 10 dropS dropO
noncomputable def A5 : PKs := A4.add 11 dropRS.pk
theorem A5_ok : PKsOk Try.prog A5 := PKsOk.anyF A4_ok 11 dropRS dropRO
noncomputable def A6 : PKs := A5.add 12 swS.pk
theorem A6_ok : PKsOk Try.prog A6 := PKsOk.anyF A5_ok 12 swS swO
noncomputable def A7 : PKs := A6.add 13 aheadS.pk
theorem A7_ok : PKsOk Try.prog A7 := PKsOk.anyF A6_ok 13 aheadS aheadO
noncomputable def A8 : PKs := A7.add 14 aheadRS.pk
theorem A8_ok : PKsOk Try.prog A8 := PKsOk.anyF A7_ok 14 aheadRS aheadRO
abbrev Row3 : Type := Int × Int × Int
abbrev Row3_fs : List Lf := [.fi .u8, .fi .u8, .fi .u8]
noncomputable def la_h (x : Bool) (l : List Row3) (w : Wait_T) (c f : Int) : Option (Ex × St) := headK Try.prog cfg A8 LP0 3 0 [.slc x (l.map (mkV true Row3_fs)), .agg (Tu.mk Wait_tfs w), .int .i64 c, .int .i64 f] []
noncomputable def la_h_r (x : Bool) (l : List Row3) (w : Wait_T) (c : Int) (f : Int) : Option (Ex × St) :=
  oK (begunS.dec [] []) fun (d0 : PUnit) => bK (decide (30 < (↑(List.map (mkV true [Lf.fi IntKind.u8, Lf.fi IntKind.u8, Lf.fi IntKind.u8]) l).length : Int))) (some (Ex.ret, { fr := [(8, AV.bool true), (27, AV.bool true), (26, AV.int IntKind.i64 (↑(List.map (mkV true [Lf.fi IntKind.u8, Lf.fi IntKind.u8, Lf.fi IntKind.u8]) l).length : Int)), (25, AV.slc x (List.map (mkV true [Lf.fi IntKind.u8, Lf.fi IntKind.u8, Lf.fi IntKind.u8]) l)), (24, AV.bool false), (23, AV.bool true), (8, AV.bool false), (5, AV.ptr 80 0 0 0), (0, AV.slc x (List.map (mkV true [Lf.fi IntKind.u8, Lf.fi IntKind.u8, Lf.fi IntKind.u8]) l)), (1, AV.agg [AV.int IntKind.i64 w.fst, AV.int IntKind.i64 w.snd.fst, AV.int IntKind.i64 w.snd.snd.fst, AV.int IntKind.i64 w.snd.snd.snd]), (2, AV.int IntKind.i64 c), (3, AV.int IntKind.i64 f)], bs := [(80, { v := 0, k := BK.box, fz := false, sz := 0, es := [AV.int IntKind.i64 w.fst, AV.int IntKind.i64 w.snd.fst, AV.int IntKind.i64 w.snd.snd.fst, AV.int IntKind.i64 w.snd.snd.snd] })], df := [] })) (some (Ex.exit 999999, { fr := [(0, AV.slc x (List.map (mkV true [Lf.fi IntKind.u8, Lf.fi IntKind.u8, Lf.fi IntKind.u8]) l)), (2, AV.int IntKind.i64 c), (3, AV.int IntKind.i64 f), (5, AV.ptr 80 0 0 0), (9, AV.slc true []), (10, AV.slc true []), (11, AV.int IntKind.i64 0)], bs := [(80, { v := 0, k := BK.box, fz := false, sz := 0, es := [AV.int IntKind.i64 w.fst, AV.int IntKind.i64 w.snd.fst, AV.int IntKind.i64 w.snd.snd.fst, AV.int IntKind.i64 w.snd.snd.snd] })], df := [] }))
theorem la_h_w (x : Bool) (l : List Row3) (w : Wait_T) (c : Int) (f : Int) : la_h x l w c f = la_h_r x l w c f := by kernel_rfl

def lah (x : Bool) (l : List Row3) (w : Wait_T) (c f : Int) (xa : Bool) (a : List Wait_T) (xb : Bool) (b : List Wait_T) (i : Int) : St := { fr := [(0, .slc x (l.map (mkV true Row3_fs))), (2, .int .i64 c), (3, .int .i64 f), (5, .ptr 80 0 0 0), (9, .slc xa (a.map (mkV true Wait_tfs))), (10, .slc xb (b.map (mkV true Wait_tfs))), (11, .int .i64 i)], bs := [(80, boxB (Tu.mk Wait_tfs w))], df := [] }
noncomputable def la_s (x : Bool) (l : List Row3) (w : Wait_T) (c f : Int) (xa : Bool) (a : List Wait_T) (xb : Bool) (b : List Wait_T) (i : Int) : Option (St ⊕ (Ex × St)) := stepK Try.prog cfg A8 LP0 3 0 (lah x l w c f xa a xb b i)
noncomputable def la_s_r (x : Bool) (l : List Row3) (w : Wait_T) (c : Int) (f : Int) (xa : Bool) (a : List Wait_T) (xb : Bool) (b : List Wait_T) (i : Int) : Option (St ⊕ Ex × St) :=
  bK (decide (i < (↑(List.map (mkV true [Lf.fi IntKind.u8, Lf.fi IntKind.u8, Lf.fi IntKind.u8]) l).length : Int)))
  (oK (elemAt true [Lf.fi IntKind.u8, Lf.fi IntKind.u8, Lf.fi IntKind.u8] (List.map (mkV true [Lf.fi IntKind.u8, Lf.fi IntKind.u8, Lf.fi IntKind.u8]) l) i) fun (d0 : Int × Int × Int) =>
    oK (elemAt true [Lf.fi IntKind.u8, Lf.fi IntKind.u8, Lf.fi IntKind.u8] (List.map (mkV true [Lf.fi IntKind.u8, Lf.fi IntKind.u8, Lf.fi IntKind.u8]) l) i) fun (d1 : Int × Int × Int) =>
      oK (elemAt true [Lf.fi IntKind.u8, Lf.fi IntKind.u8, Lf.fi IntKind.u8] (List.map (mkV true [Lf.fi IntKind.u8, Lf.fi IntKind.u8, Lf.fi IntKind.u8]) l) i) fun (d2 : Int × Int × Int) =>
        bK (decide (0 < Int.tmod d2.fst 4))
          (oK (elemAt true [Lf.fi IntKind.u8, Lf.fi IntKind.u8, Lf.fi IntKind.u8] (List.map (mkV true [Lf.fi IntKind.u8, Lf.fi IntKind.u8, Lf.fi IntKind.u8]) l) i) fun (d3 : Int × Int × Int) =>
            oK (putS.dec [AV.slc xa (List.map (mkV true Wait_tfs) a), AV.agg [AV.int IntKind.i64 (IntKind.i64.wrap (1 + IntKind.i64.wrap (Int.tmod d0.snd.fst 7))), AV.int IntKind.i64 i, AV.int IntKind.i64 (IntKind.i64.wrap (1 + IntKind.i64.wrap (Int.tmod d1.snd.snd 4))), AV.int IntKind.i64 (IntKind.i64.wrap (1 + IntKind.i64.wrap ((IntKind.u8.wrap (Int.tdiv d3.fst 4)).tmod 2)))]] []) fun (d4 : (Bool × List (Int × Int × Int × Int)) × Int × Int × Int × Int) =>
              oK (putRS.dec [AV.slc xb (List.map (mkV true Wait_tfs) b), AV.agg [AV.int IntKind.i64 (IntKind.i64.wrap (1 + IntKind.i64.wrap (Int.tmod d0.snd.fst 7))), AV.int IntKind.i64 i, AV.int IntKind.i64 (IntKind.i64.wrap (1 + IntKind.i64.wrap (Int.tmod d1.snd.snd 4))), AV.int IntKind.i64 (IntKind.i64.wrap (1 + IntKind.i64.wrap ((IntKind.u8.wrap (Int.tdiv d3.fst 4)).tmod 2)))]] []) fun (d5 : (Bool × List (Int × Int × Int × Int)) × Int × Int × Int × Int) =>
                bK (!(putQ d4.fst.snd d4.snd).snd == (putRQ d5.fst.snd d5.snd).snd) (some (Sum.inr (Ex.ret, { fr := [(2, AV.int IntKind.i64 c), (3, AV.int IntKind.i64 f), (5, AV.ptr 80 0 0 0), (8, AV.bool false), (9, AV.slc xa (List.map (mkV true Wait_tfs) a)), (10, AV.slc xb (List.map (mkV true Wait_tfs) b))], bs := [(80, { v := 0, k := BK.box, fz := false, sz := 0, es := [AV.int IntKind.i64 w.fst, AV.int IntKind.i64 w.snd.fst, AV.int IntKind.i64 w.snd.snd.fst, AV.int IntKind.i64 w.snd.snd.snd] })], df := [] })))
                  (oK (swS.dec [AV.slc false (List.map (mkV true Wait_tfs) (putQ d4.fst.snd d4.snd).fst), AV.slc (putRX d5.fst.fst d5.fst.snd d5.snd) (List.map (mkV true Wait_tfs) (putRQ d5.fst.snd d5.snd).fst)] []) fun (d6 : (Bool × List (Int × Int × Int × Int)) × Bool × List (Int × Int × Int × Int)) =>
                    bK (!swQ d6.fst.snd d6.snd.snd) (some (Sum.inr (Ex.ret, { fr := [(2, AV.int IntKind.i64 c), (3, AV.int IntKind.i64 f), (5, AV.ptr 80 0 0 0), (8, AV.bool false), (9, AV.slc false (List.map (mkV true Wait_tfs) (putQ d4.fst.snd d4.snd).fst)), (10, AV.slc (putRX d5.fst.fst d5.fst.snd d5.snd) (List.map (mkV true Wait_tfs) (putRQ d5.fst.snd d5.snd).fst))], bs := [(80, { v := 0, k := BK.box, fz := false, sz := 0, es := [AV.int IntKind.i64 w.fst, AV.int IntKind.i64 w.snd.fst, AV.int IntKind.i64 w.snd.snd.fst, AV.int IntKind.i64 w.snd.snd.snd] })], df := [] })))
                      (oK (aheadS.dec [AV.slc false (List.map (mkV true Wait_tfs) (putQ d4.fst.snd d4.snd).fst), AV.int IntKind.i64 (IntKind.i64.wrap (1 + IntKind.i64.wrap (Int.tmod d0.snd.fst 7))), AV.int IntKind.i64 (IntKind.i64.wrap (1 + IntKind.i64.wrap (Int.tmod d1.snd.snd 4)))] []) fun (d7 : (Bool × List (Int × Int × Int × Int)) × Int × Int) =>
                        oK (aheadRS.dec [AV.slc (putRX d5.fst.fst d5.fst.snd d5.snd) (List.map (mkV true Wait_tfs) (putRQ d5.fst.snd d5.snd).fst), AV.int IntKind.i64 (IntKind.i64.wrap (1 + IntKind.i64.wrap (Int.tmod d0.snd.fst 7))), AV.int IntKind.i64 (IntKind.i64.wrap (1 + IntKind.i64.wrap (Int.tmod d1.snd.snd 4)))] []) fun (d8 : (Bool × List (Int × Int × Int × Int)) × Int × Int) =>
                          bK (!aheadQ d7 == aheadQ d8) (some (Sum.inr (Ex.ret, { fr := [(2, AV.int IntKind.i64 c), (3, AV.int IntKind.i64 f), (5, AV.ptr 80 0 0 0), (8, AV.bool false), (9, AV.slc false (List.map (mkV true Wait_tfs) (putQ d4.fst.snd d4.snd).fst)), (10, AV.slc (putRX d5.fst.fst d5.fst.snd d5.snd) (List.map (mkV true Wait_tfs) (putRQ d5.fst.snd d5.snd).fst))], bs := [(80, { v := 0, k := BK.box, fz := false, sz := 0, es := [AV.int IntKind.i64 w.fst, AV.int IntKind.i64 w.snd.fst, AV.int IntKind.i64 w.snd.snd.fst, AV.int IntKind.i64 w.snd.snd.snd] })], df := [] })))
                            (oK (aheadS.dec [AV.slc false (List.map (mkV true Wait_tfs) (putQ d4.fst.snd d4.snd).fst), AV.int IntKind.i64 (IntKind.i64.wrap (IntKind.i64.wrap (1 + IntKind.i64.wrap (Int.tmod d0.snd.fst 7)) + 1)), AV.int IntKind.i64 (IntKind.i64.wrap (1 + IntKind.i64.wrap (Int.tmod d1.snd.snd 4)))] []) fun (d9 : (Bool × List (Int × Int × Int × Int)) × Int × Int) =>
                              oK (aheadRS.dec [AV.slc (putRX d5.fst.fst d5.fst.snd d5.snd) (List.map (mkV true Wait_tfs) (putRQ d5.fst.snd d5.snd).fst), AV.int IntKind.i64 (IntKind.i64.wrap (IntKind.i64.wrap (1 + IntKind.i64.wrap (Int.tmod d0.snd.fst 7)) + 1)), AV.int IntKind.i64 (IntKind.i64.wrap (1 + IntKind.i64.wrap (Int.tmod d1.snd.snd 4)))] []) fun (d10 : (Bool × List (Int × Int × Int × Int)) × Int × Int) =>
                                bK (!aheadQ d9 == aheadQ d10) (some (Sum.inr (Ex.ret, { fr := [(2, AV.int IntKind.i64 c), (3, AV.int IntKind.i64 f), (5, AV.ptr 80 0 0 0), (8, AV.bool false), (9, AV.slc false (List.map (mkV true Wait_tfs) (putQ d4.fst.snd d4.snd).fst)), (10, AV.slc (putRX d5.fst.fst d5.fst.snd d5.snd) (List.map (mkV true Wait_tfs) (putRQ d5.fst.snd d5.snd).fst))], bs := [(80, { v := 0, k := BK.box, fz := false, sz := 0, es := [AV.int IntKind.i64 w.fst, AV.int IntKind.i64 w.snd.fst, AV.int IntKind.i64 w.snd.snd.fst, AV.int IntKind.i64 w.snd.snd.snd] })], df := [] }))) (some (Sum.inl { fr := [(0, AV.slc x (List.map (mkV true [Lf.fi IntKind.u8, Lf.fi IntKind.u8, Lf.fi IntKind.u8]) l)), (2, AV.int IntKind.i64 c), (3, AV.int IntKind.i64 f), (5, AV.ptr 80 0 0 0), (9, AV.slc false (List.map (mkV true Wait_tfs) (putQ d4.fst.snd d4.snd).fst)), (10, AV.slc (putRX d5.fst.fst d5.fst.snd d5.snd) (List.map (mkV true Wait_tfs) (putRQ d5.fst.snd d5.snd).fst)), (11, AV.int IntKind.i64 (IntKind.i64.wrap (i + 1)))], bs := [(80, { v := 0, k := BK.box, fz := false, sz := 0, es := [AV.int IntKind.i64 w.fst, AV.int IntKind.i64 w.snd.fst, AV.int IntKind.i64 w.snd.snd.fst, AV.int IntKind.i64 w.snd.snd.snd] })], df := [] }))))))
          (oK (dropS.dec [AV.slc xa (List.map (mkV true Wait_tfs) a), AV.int IntKind.i64 (IntKind.i64.wrap (1 + IntKind.i64.wrap (Int.tmod d0.snd.fst 7)))] []) fun (d11 : (Bool × List (Int × Int × Int × Int)) × Int) =>
            oK (dropRS.dec [AV.slc xb (List.map (mkV true Wait_tfs) b), AV.int IntKind.i64 (IntKind.i64.wrap (1 + IntKind.i64.wrap (Int.tmod d0.snd.fst 7)))] []) fun (d12 : (Bool × List (Int × Int × Int × Int)) × Int) =>
              oK (swS.dec [AV.slc d11.fst.snd.isEmpty (List.map (mkV true Wait_tfs) (dropF d11.fst.snd d11.snd)), AV.slc (dropF d12.fst.snd d12.snd).isEmpty (List.map (mkV true Wait_tfs) (dropF d12.fst.snd d12.snd))] []) fun (d13 : (Bool × List (Int × Int × Int × Int)) × Bool × List (Int × Int × Int × Int)) =>
                bK (!swQ d13.fst.snd d13.snd.snd) (some (Sum.inr (Ex.ret, { fr := [(2, AV.int IntKind.i64 c), (3, AV.int IntKind.i64 f), (5, AV.ptr 80 0 0 0), (8, AV.bool false), (9, AV.slc d11.fst.snd.isEmpty (List.map (mkV true Wait_tfs) (dropF d11.fst.snd d11.snd))), (10, AV.slc (dropF d12.fst.snd d12.snd).isEmpty (List.map (mkV true Wait_tfs) (dropF d12.fst.snd d12.snd)))], bs := [(80, { v := 0, k := BK.box, fz := false, sz := 0, es := [AV.int IntKind.i64 w.fst, AV.int IntKind.i64 w.snd.fst, AV.int IntKind.i64 w.snd.snd.fst, AV.int IntKind.i64 w.snd.snd.snd] })], df := [] })))
                  (oK (aheadS.dec [AV.slc d11.fst.snd.isEmpty (List.map (mkV true Wait_tfs) (dropF d11.fst.snd d11.snd)), AV.int IntKind.i64 (IntKind.i64.wrap (1 + IntKind.i64.wrap (Int.tmod d0.snd.fst 7))), AV.int IntKind.i64 (IntKind.i64.wrap (1 + IntKind.i64.wrap (Int.tmod d1.snd.snd 4)))] []) fun (d14 : (Bool × List (Int × Int × Int × Int)) × Int × Int) =>
                    oK (aheadRS.dec [AV.slc (dropF d12.fst.snd d12.snd).isEmpty (List.map (mkV true Wait_tfs) (dropF d12.fst.snd d12.snd)), AV.int IntKind.i64 (IntKind.i64.wrap (1 + IntKind.i64.wrap (Int.tmod d0.snd.fst 7))), AV.int IntKind.i64 (IntKind.i64.wrap (1 + IntKind.i64.wrap (Int.tmod d1.snd.snd 4)))] []) fun (d15 : (Bool × List (Int × Int × Int × Int)) × Int × Int) =>
                      bK (!aheadQ d14 == aheadQ d15) (some (Sum.inr (Ex.ret, { fr := [(2, AV.int IntKind.i64 c), (3, AV.int IntKind.i64 f), (5, AV.ptr 80 0 0 0), (8, AV.bool false), (9, AV.slc d11.fst.snd.isEmpty (List.map (mkV true Wait_tfs) (dropF d11.fst.snd d11.snd))), (10, AV.slc (dropF d12.fst.snd d12.snd).isEmpty (List.map (mkV true Wait_tfs) (dropF d12.fst.snd d12.snd)))], bs := [(80, { v := 0, k := BK.box, fz := false, sz := 0, es := [AV.int IntKind.i64 w.fst, AV.int IntKind.i64 w.snd.fst, AV.int IntKind.i64 w.snd.snd.fst, AV.int IntKind.i64 w.snd.snd.snd] })], df := [] })))
                        (oK (aheadS.dec [AV.slc d11.fst.snd.isEmpty (List.map (mkV true Wait_tfs) (dropF d11.fst.snd d11.snd)), AV.int IntKind.i64 (IntKind.i64.wrap (IntKind.i64.wrap (1 + IntKind.i64.wrap (Int.tmod d0.snd.fst 7)) + 1)), AV.int IntKind.i64 (IntKind.i64.wrap (1 + IntKind.i64.wrap (Int.tmod d1.snd.snd 4)))] []) fun (d16 : (Bool × List (Int × Int × Int × Int)) × Int × Int) =>
                          oK (aheadRS.dec [AV.slc (dropF d12.fst.snd d12.snd).isEmpty (List.map (mkV true Wait_tfs) (dropF d12.fst.snd d12.snd)), AV.int IntKind.i64 (IntKind.i64.wrap (IntKind.i64.wrap (1 + IntKind.i64.wrap (Int.tmod d0.snd.fst 7)) + 1)), AV.int IntKind.i64 (IntKind.i64.wrap (1 + IntKind.i64.wrap (Int.tmod d1.snd.snd 4)))] []) fun (d17 : (Bool × List (Int × Int × Int × Int)) × Int × Int) =>
                            bK (!aheadQ d16 == aheadQ d17) (some (Sum.inr (Ex.ret, { fr := [(2, AV.int IntKind.i64 c), (3, AV.int IntKind.i64 f), (5, AV.ptr 80 0 0 0), (8, AV.bool false), (9, AV.slc d11.fst.snd.isEmpty (List.map (mkV true Wait_tfs) (dropF d11.fst.snd d11.snd))), (10, AV.slc (dropF d12.fst.snd d12.snd).isEmpty (List.map (mkV true Wait_tfs) (dropF d12.fst.snd d12.snd)))], bs := [(80, { v := 0, k := BK.box, fz := false, sz := 0, es := [AV.int IntKind.i64 w.fst, AV.int IntKind.i64 w.snd.fst, AV.int IntKind.i64 w.snd.snd.fst, AV.int IntKind.i64 w.snd.snd.snd] })], df := [] }))) (some (Sum.inl { fr := [(0, AV.slc x (List.map (mkV true [Lf.fi IntKind.u8, Lf.fi IntKind.u8, Lf.fi IntKind.u8]) l)), (2, AV.int IntKind.i64 c), (3, AV.int IntKind.i64 f), (5, AV.ptr 80 0 0 0), (9, AV.slc d11.fst.snd.isEmpty (List.map (mkV true Wait_tfs) (dropF d11.fst.snd d11.snd))), (10, AV.slc (dropF d12.fst.snd d12.snd).isEmpty (List.map (mkV true Wait_tfs) (dropF d12.fst.snd d12.snd))), (11, AV.int IntKind.i64 (IntKind.i64.wrap (i + 1)))], bs := [(80, { v := 0, k := BK.box, fz := false, sz := 0, es := [AV.int IntKind.i64 w.fst, AV.int IntKind.i64 w.snd.fst, AV.int IntKind.i64 w.snd.snd.fst, AV.int IntKind.i64 w.snd.snd.snd] })], df := [] }))))))
  (some (Sum.inr (Ex.exit 0, { fr := [(2, AV.int IntKind.i64 c), (3, AV.int IntKind.i64 f), (5, AV.ptr 80 0 0 0), (9, AV.slc xa (List.map (mkV true Wait_tfs) a)), (10, AV.slc xb (List.map (mkV true Wait_tfs) b))], bs := [(80, { v := 0, k := BK.box, fz := false, sz := 0, es := [AV.int IntKind.i64 w.fst, AV.int IntKind.i64 w.snd.fst, AV.int IntKind.i64 w.snd.snd.fst, AV.int IntKind.i64 w.snd.snd.snd] })], df := [] })))
theorem la_s_w (x : Bool) (l : List Row3) (w : Wait_T) (c : Int) (f : Int) (xa : Bool) (a : List Wait_T) (xb : Bool) (b : List Wait_T) (i : Int) : la_s x l w c f xa a xb b i = la_s_r x l w c f xa a xb b i := by kernel_rfl

/-- Of each one waits once, and not more than may. -/
def LInv (a : List Wait_T) : Prop := a.length ≤ 4 ∧ (a.map (·.1)).Nodup
theorem drop_inv {a : List Wait_T} {c : Int} (h : LInv a) : LInv (dropF a c) := by
  refine ⟨Nat.le_trans (dropF_le a c) h.1, ?_⟩
  exact List.Nodup.sublist (List.Sublist.map _ List.filter_sublist) h.2
theorem drop_notin (a : List Wait_T) (c : Int) : c ∉ (dropF a c).map (·.1) := by
  simp [dropF]
theorem put_eq {a : List Wait_T} (w : Wait_T) (h : LInv a) : putF a w = putRF a w := by
  have hp := firstN_ge (fun v : Wait_T => decide (v.1 = w.1)) a 0 (by omega)
  have hpl : placeF a w.1 = firstN (fun v : Wait_T => decide (v.1 = w.1)) a 0 := rfl
  rcases hp with ⟨e1, e2⟩ | ⟨k, hk, e1, e2, e3⟩
  · have hn : firstN (wantP w) a 0 = -1 := firstN_none fun v hv => by
      have := e2 v hv
      simp only [decide_eq_false_iff_not] at this
      simp [wantP, this]
    unfold putF putRF
    rw [hpl, e1, hn]
    simp
  · have hk1 : a[k].1 = w.1 := by simpa using e2
    have hpk : placeF a w.1 = (k : Int) := by rw [hpl, e1]; omega
    by_cases hf : a[k].2.2.1 = w.2.2.1
    · have hn : firstN (wantP w) a 0 = (k : Int) := by
        rw [firstN_at hk (by simp [wantP, hk1, hf]) (fun v hv => ?_)]
        · omega
        · have := e3 v hv
          simp only [decide_eq_false_iff_not] at this
          simp [wantP, this]
      unfold putF putRF
      rw [hpk, hn, Int.toNat_natCast, getD_at hk, if_pos ⟨by omega, hf⟩, if_pos (by omega)]
    · have hn : firstN (wantP w) a 0 = -1 := firstN_none fun v hv => by
        obtain ⟨j, hj, rfl⟩ := List.getElem_of_mem hv
        by_cases hc : a[j].1 = w.1
        · have : j = k := by
            have h1 : (a.map (·.1))[j]'(by simpa using hj) = (a.map (·.1))[k]'(by simpa using hk) := by simp [hc, hk1]
            rcases Nat.lt_trichotomy j k with hjk | hjk | hjk
            · exact absurd h1 (List.pairwise_iff_getElem.1 h.2 j k (by simpa using hj) (by simpa using hk) hjk)
            · exact hjk
            · exact absurd h1.symm (List.pairwise_iff_getElem.1 h.2 k j (by simpa using hk) (by simpa using hj) hjk)
          subst this
          simp [wantP, hf]
        · simp [wantP, hc]
      unfold putF putRF
      rw [hpk, hn, Int.toNat_natCast, getD_at hk, if_neg (fun hh => hf hh.2)]
      simp
theorem put_inv {a : List Wait_T} (w : Wait_T) (h : LInv a) : LInv (putF a w).1 := by
  unfold putF
  split
  · rename_i hc
    have hp := firstN_ge (fun v : Wait_T => decide (v.1 = w.1)) a 0 (by omega)
    have hpl : placeF a w.1 = firstN (fun v : Wait_T => decide (v.1 = w.1)) a 0 := rfl
    rcases hp with ⟨e1, e2⟩ | ⟨k, hk, e1, e2, e3⟩
    · rw [hpl, e1] at hc; omega
    · have hk1 : a[k].1 = w.1 := by simpa using e2
      have hpk : (placeF a w.1).toNat = k := by rw [hpl, e1]; omega
      rw [hpk]
      refine ⟨by simpa using h.1, ?_⟩
      have : (a.set k w).map (·.1) = a.map (·.1) := by
        rw [List.map_set, ← hk1]
        have e : a[k].1 = (a.map (·.1))[k]'(by simpa using hk) := by simp
        rw [e, List.set_getElem_self]
      show ((a.set k w).map (·.1)).Nodup
      rw [this]
      exact h.2
  · split
    · exact h
    · rename_i h4
      have hd := drop_inv (c := w.1) h
      refine ⟨by simp; omega, ?_⟩
      show ((dropF a w.1 ++ [w]).map (·.1)).Nodup
      rw [List.map_append, List.nodup_append]
      refine ⟨hd.2, by simp, ?_⟩
      intro x hx y hy
      simp only [List.map_cons, List.map_nil, List.mem_singleton] at hy
      subst hy
      intro e
      subst e
      exact drop_notin a _ hx
def laGood (x : Bool) (l : List Row3) (w : Wait_T) (c f : Int) (i : Nat) (r : Option (St ⊕ (Ex × St))) : Prop := ∃ y : Bool × List Wait_T × Bool, LInv y.2.1 ∧ r = some (.inl (lah x l w c f y.1 y.2.1 y.2.2 y.2.1 ((i : Int) + 1)))
theorem sw_refl (a : List Wait_T) : swQ a a = true := decide_eq_true rfl
theorem la_step (x : Bool) (l : List Row3) (w : Wait_T) (c f : Int) (xa : Bool) (a : List Wait_T) (xb : Bool) (i : Nat) (hi : i < l.length) (hl : l.length ≤ 100) (h : LInv a) : laGood x l w c f i (la_s_r x l w c f xa a xb a i) := by
  unfold la_s_r
  have e1 : IntKind.i64.wrap ((i : Int) + 1) = (i : Int) + 1 := w64 (by omega) (by omega)
  rw [e1]
  have ha : a.length ≤ 100000 := by have := h.1; omega
  have at_ : ∀ {Q : Option (St ⊕ (Ex × St)) → Prop} {k : Row3 → Option (St ⊕ (Ex × St))}, Q (k l[i]) → Q (oK (elemAt true Row3_fs (l.map (mkV true Row3_fs)) i) k) := fun hk => oK_atq (fs := Row3_fs) (0, 0, 0) (by omega) (by simpa using hi) (by rw [Int.toNat_natCast, getD_at hi]; exact hk)
  refine bK_tq (by simp; omega) (at_ (at_ (at_ ?_)))
  generalize IntKind.i64.wrap (1 + IntKind.i64.wrap (Int.tmod l[i].2.1 7)) = C
  generalize IntKind.i64.wrap (1 + IntKind.i64.wrap (Int.tmod l[i].2.2 4)) = F
  refine bK_iq (fun _ => at_ ?_) (fun _ => ?_)
  · generalize IntKind.i64.wrap (1 + IntKind.i64.wrap ((IntKind.u8.wrap (Int.tdiv l[i].1 4)).tmod 2)) = M
    refine oK_fsq putS ((xa, a), C, (i : Int), F, M) ha ?_
    refine oK_fsq putRS ((xb, a), C, (i : Int), F, M) ha ?_
    have p1 : putQ a (C, (i : Int), F, M) = putF a (C, (i : Int), F, M) := rfl
    have p2 : putRQ a (C, (i : Int), F, M) = putF a (C, (i : Int), F, M) := (put_eq _ h).symm
    have hv := put_inv (C, (i : Int), F, M) h
    simp only [p1, p2]
    generalize putF a (C, (i : Int), F, M) = y at hv ⊢
    generalize putRX xb a (C, (i : Int), F, M) = xb'
    have hy : y.1.length ≤ 100000 := by have := hv.1; omega
    refine bK_fq (by simp) ?_
    refine oK_fsq swS ((false, y.1), (xb', y.1)) hy ?_
    refine bK_fq (by simp only [sw_refl]; rfl) ?_
    refine oK_fsq aheadS ((false, y.1), C, F) hy (oK_fsq aheadRS ((xb', y.1), C, F) hy ?_)
    have q1 : ∀ (x x' : Bool) (c f : Int), aheadQ ((x, y.1), c, f) = aheadQ ((x', y.1), c, f) := fun _ _ _ _ => rfl
    refine bK_fq (by rw [q1 false xb']; simp) ?_
    refine oK_fsq aheadS ((false, y.1), IntKind.i64.wrap (C + 1), F) hy (oK_fsq aheadRS ((xb', y.1), IntKind.i64.wrap (C + 1), F) hy ?_)
    refine bK_fq (by rw [q1 false xb']; simp) ?_
    exact ⟨(false, y.1, xb'), hv, rfl⟩
  · refine oK_fsq dropS ((xa, a), C) ha (oK_fsq dropRS ((xb, a), C) ha ?_)
    have hv := drop_inv (c := C) h
    simp only
    generalize dropF a C = y at hv ⊢
    have hy : y.length ≤ 100000 := by have := hv.1; omega
    refine oK_fsq swS ((a.isEmpty, y), (y.isEmpty, y)) hy ?_
    refine bK_fq (by simp only [sw_refl]; rfl) ?_
    refine oK_fsq aheadS ((a.isEmpty, y), C, F) hy (oK_fsq aheadRS ((y.isEmpty, y), C, F) hy ?_)
    have q1 : ∀ (x x' : Bool) (c f : Int), aheadQ ((x, y), c, f) = aheadQ ((x', y), c, f) := fun _ _ _ _ => rfl
    refine bK_fq (by rw [q1 a.isEmpty y.isEmpty]; simp) ?_
    refine oK_fsq aheadS ((a.isEmpty, y), IntKind.i64.wrap (C + 1), F) hy (oK_fsq aheadRS ((y.isEmpty, y), IntKind.i64.wrap (C + 1), F) hy ?_)
    refine bK_fq (by rw [q1 a.isEmpty y.isEmpty]; simp) ?_
    exact ⟨(a.isEmpty, y, y.isEmpty), hv, rfl⟩
def laE (w : Wait_T) (c f : Int) (xa : Bool) (a : List Wait_T) (xb : Bool) : Ex × St := (.exit 0, { fr := [(2, .int .i64 c), (3, .int .i64 f), (5, .ptr 80 0 0 0), (9, .slc xa (a.map (mkV true Wait_tfs))), (10, .slc xb (a.map (mkV true Wait_tfs)))], bs := [(80, boxB (Tu.mk Wait_tfs w))], df := [] })
theorem lal : (loopsOf 0 (codeOf Try.prog 3)).map (·.1) = [0] := by kernel_rfl
theorem lao : OneLoops Try.prog 3 := by unfold OneLoops; rw [lal]; decide
theorem laa : At 0 (codeOf Try.prog 3) 0 (.loop (bodyAt Try.prog 3 0)) := at_body lao (by rw [lal]; decide)
theorem la_run (x : Bool) (l : List Row3) (w : Wait_T) (c f : Int) (hl : l.length ≤ 100) : ∀ (j i : Nat), i + j = l.length → ∀ (xa : Bool) (a : List Wait_T) (xb : Bool), LInv a → ∀ (m : Nat), j < m → ∃ y : Bool × List Wait_T × Bool, LInv y.2.1 ∧ Runs' Try.prog cfg A8 3 0 m (lah x l w c f xa a xb a i) (laE w c f y.1 y.2.1 y.2.2)
  | 0, i, hi, xa, a, xb, h, m + 1, hm => by
    refine ⟨(xa, a, xb), h, Runs'.done (lp := LP0) LPok.none laa ((la_s_w x l w c f xa a xb a i).trans ?_)⟩
    unfold la_s_r
    rw [bK_neg (by simp; omega)]
    rfl
  | j + 1, i, hi, xa, a, xb, h, m + 1, hm => by
    obtain ⟨y, h1, h2⟩ := la_step x l w c f xa a xb i (by omega) hl h
    obtain ⟨z, h3, h4⟩ := la_run x l w c f hl j (i + 1) (by omega) y.1 y.2.1 y.2.2 h1 m (by omega)
    exact ⟨z, h3, Runs'.step (lp := LP0) LPok.none laa ((la_s_w x l w c f xa a xb a i).trans h2) h4⟩
abbrev LaD : Type := (Bool × List Row3) × Wait_T × Int × Int
def laH (d : LaD) : St := lah d.1.1 d.1.2 d.2.1 d.2.2.1 d.2.2.2 true [] true [] 0
theorem la_ex (d : LaD) (h : d.1.2.length ≤ 100) : ∃ y : Bool × List Wait_T × Bool, LInv y.2.1 ∧ Runs' Try.prog cfg A8 3 0 rounds (laH d) (laE d.2.1 d.2.2.1 d.2.2.2 y.1 y.2.1 y.2.2) :=
  la_run d.1.1 d.1.2 d.2.1 d.2.2.1 d.2.2.2 h d.1.2.length 0 (by omega) true [] true ⟨by simp, by simp⟩ rounds (by simp only [rounds]; omega)
/-- Who waits in the end. -/
noncomputable def laR (d : LaD) : Bool × List Wait_T × Bool := open Classical in if h : d.1.2.length ≤ 100 then Classical.choose (la_ex d h) else (true, [], true)
theorem laR_spec (d : LaD) (h : d.1.2.length ≤ 100) : LInv (laR d).2.1 ∧ Runs' Try.prog cfg A8 3 0 rounds (laH d) (laE d.2.1 d.2.2.1 d.2.2.2 (laR d).1 (laR d).2.1 (laR d).2.2) := by
  unfold laR
  rw [dif_pos h]
  exact Classical.choose_spec (la_ex d h)
noncomputable def laL : LP := LP.of laH (fun d => d.1.2.length ≤ 100) fun d => .leaf (laE d.2.1 d.2.2.1 d.2.2.2 (laR d).1 (laR d).2.1 (laR d).2.2)
noncomputable def laP : LPs := LPs.add LP0 3 0 laL
theorem laP_ok : LPok Try.prog cfg A8 laP 3 := LPok.addH LPok.none lao fun d h => (laR_spec d h).2
theorem laH_inj (d d' : LaD) (h : laH d = laH d') : d = d' := by
  obtain ⟨⟨x, l⟩, w, c, f⟩ := d
  obtain ⟨⟨x', l'⟩, w', c', f'⟩ := d'
  simp only [laH, lah, boxB, St.mk.injEq, List.cons.injEq, Prod.mk.injEq, AV.slc.injEq, AV.int.injEq, Blk.mk.injEq, and_true, true_and] at h
  have e1 := map_inj (fs := Row3_fs) rfl h.1.1.2
  have e2 := mk_inj (fs := Wait_tfs) rfl h.2
  rw [h.1.1.1, e1, e2, h.1.2.1, h.1.2.2]
abbrev lineAll_id : Nat := 3
abbrev lineAll_sh : Shp := [none, some 4, none, none]
abbrev lineAll_fs : List Lf := [.fl true [.fi .u8, .fi .u8, .fi .u8], .fi .i64, .fi .i64, .fi .i64, .fi .i64, .fi .i64, .fi .i64]
abbrev lineAll_rsh : Shp := [none]
abbrev lineAll_rfs : List Lf := [.fb]
noncomputable def lineAll_r (l_x : Bool) (l : List (Int × Int × Int)) (wild_Client : Int) (wild_Seq : Int) (wild_File : Int) (wild_Mode : Int) (client : Int) (file : Int) : Option Ret :=
  oK (begunS.dec [] []) fun (d0 : PUnit) =>
  bK (decide (30 < (↑(List.map (mkV true [Lf.fi IntKind.u8, Lf.fi IntKind.u8, Lf.fi IntKind.u8]) l).length : Int))) (some { pan := false, res := AV.bool true, out := [], new := [] })
    (oK (laL.dec { fr := [(0, AV.slc l_x (List.map (mkV true [Lf.fi IntKind.u8, Lf.fi IntKind.u8, Lf.fi IntKind.u8]) l)), (2, AV.int IntKind.i64 client), (3, AV.int IntKind.i64 file), (5, AV.ptr 80 0 0 0), (9, AV.slc true []), (10, AV.slc true []), (11, AV.int IntKind.i64 0)], bs := [(80, { v := 0, k := BK.box, fz := false, sz := 0, es := [AV.int IntKind.i64 wild_Client, AV.int IntKind.i64 wild_Seq, AV.int IntKind.i64 wild_File, AV.int IntKind.i64 wild_Mode] })], df := [] }) fun (d1 : (Bool × List (Int × Int × Int)) × (Int × Int × Int × Int) × Int × Int) =>
      oK (putS.dec [AV.slc (laR d1).fst (List.map (mkV true Wait_tfs) (laR d1).snd.fst), AV.agg [AV.int IntKind.i64 d1.snd.fst.fst, AV.int IntKind.i64 d1.snd.fst.snd.fst, AV.int IntKind.i64 d1.snd.fst.snd.snd.fst, AV.int IntKind.i64 d1.snd.fst.snd.snd.snd]] []) fun (d2 : (Bool × List (Int × Int × Int × Int)) × Int × Int × Int × Int) =>
        oK (putRS.dec [AV.slc (laR d1).snd.snd (List.map (mkV true Wait_tfs) (laR d1).snd.fst), AV.agg [AV.int IntKind.i64 d1.snd.fst.fst, AV.int IntKind.i64 d1.snd.fst.snd.fst, AV.int IntKind.i64 d1.snd.fst.snd.snd.fst, AV.int IntKind.i64 d1.snd.fst.snd.snd.snd]] []) fun (d3 : (Bool × List (Int × Int × Int × Int)) × Int × Int × Int × Int) => bK ((putQ d2.fst.snd d2.snd).snd == (putRQ d3.fst.snd d3.snd).snd) (oK (swS.dec [AV.slc false (List.map (mkV true Wait_tfs) (putQ d2.fst.snd d2.snd).fst), AV.slc (putRX d3.fst.fst d3.fst.snd d3.snd) (List.map (mkV true Wait_tfs) (putRQ d3.fst.snd d3.snd).fst)] []) fun (d4 : (Bool × List (Int × Int × Int × Int)) × Bool × List (Int × Int × Int × Int)) => bK (swQ d4.fst.snd d4.snd.snd) (oK (aheadS.dec [AV.slc (laR d1).fst (List.map (mkV true Wait_tfs) (laR d1).snd.fst), AV.int IntKind.i64 d1.snd.snd.fst, AV.int IntKind.i64 d1.snd.snd.snd] []) fun (d5 : (Bool × List (Int × Int × Int × Int)) × Int × Int) => oK (aheadRS.dec [AV.slc (laR d1).snd.snd (List.map (mkV true Wait_tfs) (laR d1).snd.fst), AV.int IntKind.i64 d1.snd.snd.fst, AV.int IntKind.i64 d1.snd.snd.snd] []) fun (d6 : (Bool × List (Int × Int × Int × Int)) × Int × Int) => some { pan := false, res := AV.bool (aheadQ d5 == aheadQ d6), out := [], new := [] }) (some { pan := false, res := AV.bool false, out := [], new := [] })) (some { pan := false, res := AV.bool false, out := [], new := [] }))
theorem lineAll_w (l_x : Bool) (l : List (Int × Int × Int)) (wild_Client : Int) (wild_Seq : Int) (wild_File : Int) (wild_Mode : Int) (client : Int) (file : Int) : unitQ Try.prog cfg A8 laP true 3 (groupA lineAll_sh (Tu.mk lineAll_fs ((l_x, l), wild_Client, wild_Seq, wild_File, wild_Mode, client, file))) [] = lineAll_r l_x l wild_Client wild_Seq wild_File wild_Mode client file := by kernel_rfl

theorem lineAll_yes (l_x : Bool) (l : List (Int × Int × Int)) (wild_Client : Int) (wild_Seq : Int) (wild_File : Int) (wild_Mode : Int) (client : Int) (file : Int) (h : Tu.wf lineAll_fs ((l_x, l), wild_Client, wild_Seq, wild_File, wild_Mode, client, file)) : Yes (lineAll_r l_x l wild_Client wild_Seq wild_File wild_Mode client file) := by
  unfold lineAll_r
  refine oK_fsq begunS () trivial ?_
  refine bK_iq (fun _ => yes_leaf) (fun hl => ?_)
  have hl' : l.length ≤ 100 := by rw [List.length_map] at hl; omega
  refine oK_lpq laH_inj ((l_x, l), (wild_Client, wild_Seq, wild_File, wild_Mode), client, file) hl' ?_
  have hv := (laR_spec ((l_x, l), (wild_Client, wild_Seq, wild_File, wild_Mode), client, file) hl').1
  generalize laR ((l_x, l), (wild_Client, wild_Seq, wild_File, wild_Mode), client, file) = y at hv ⊢
  obtain ⟨xa, a, xb⟩ := y
  simp only at hv ⊢
  have ha : a.length ≤ 100000 := by have := hv.1; omega
  refine oK_fsq putS ((xa, a), wild_Client, wild_Seq, wild_File, wild_Mode) ha (oK_fsq putRS ((xb, a), wild_Client, wild_Seq, wild_File, wild_Mode) ha ?_)
  have p1 : putQ a (wild_Client, wild_Seq, wild_File, wild_Mode) = putF a (wild_Client, wild_Seq, wild_File, wild_Mode) := rfl
  have p2 : putRQ a (wild_Client, wild_Seq, wild_File, wild_Mode) = putF a (wild_Client, wild_Seq, wild_File, wild_Mode) := (put_eq _ hv).symm
  have hy := put_inv (wild_Client, wild_Seq, wild_File, wild_Mode) hv
  simp only [p1, p2]
  generalize putF a (wild_Client, wild_Seq, wild_File, wild_Mode) = z at hy ⊢
  have hz : z.1.length ≤ 100000 := by have := hy.1; omega
  refine bK_tq (by simp) (oK_fsq swS ((false, z.1), (putRX xb a (wild_Client, wild_Seq, wild_File, wild_Mode), z.1)) hz (bK_tq (by simp only [sw_refl]) ?_))
  refine oK_fsq aheadS ((xa, a), client, file) ha (oK_fsq aheadRS ((xb, a), client, file) ha ?_)
  exact yes_of (by
    have : aheadQ ((xa, a), client, file) = aheadQ ((xb, a), client, file) := rfl
    rw [this]
    exact beq_self_eq_true _)

end Go.Proofs.Ytknikmehfnihpaa
