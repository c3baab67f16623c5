/- A part of the proof: contracts of functions. -/
import Derived.Test.YtbifdenekkijfaaB2
import Derived.Test.YtbifdenekkijfaaAbAny

set_option linter.unusedVariables false
set_option linter.unusedSimpArgs false
set_option maxRecDepth 100000
namespace Go.Proofs.Ytbifdenekkijfaa
open Go Go.Ab
noncomputable def Q2 : PKs := D1.add 11 holdsS.pk
noncomputable def Q3 : PKs := Q2.add 12 hrefS.pk
noncomputable def Q4 : PKs := Q3.add 14 dropS.pk
noncomputable def Q5 : PKs := Q4.add 15 drefoS.pk
noncomputable def Q6 : PKs := Q5.add 13 slS.pk
noncomputable def Q7 : PKs := Q6.add 17 clashS.pk
noncomputable def Q8 : PKs := Q7.add 18 crefS.pk
noncomputable def Q9 : PKs := Q8.add 16 saS.pk
noncomputable def Qa : PKs := Q9.add 19 mayS.pk
noncomputable def Qb : PKs := Qa.add 20 mrefS.pk
noncomputable def Qc : PKs := Qb.add 21 granS.pk
noncomputable def Qd : PKs := Qc.add 22 grefoS.pk
noncomputable def Qe : PKs := Qd.add 23 pruneS.pk
noncomputable def Qf : PKs := Qe.add 24 prefS.pk
theorem Q2_ok : PKsOk Try.prog Q2 := PKsOk.anyF D1_ok 11 holdsS holdsO
theorem Q3_ok : PKsOk Try.prog Q3 := PKsOk.anyF Q2_ok 12 hrefS hrefO
theorem Q4_ok : PKsOk Try.prog Q4 := PKsOk.anyF Q3_ok 14 dropS dropO
theorem Q5_ok : PKsOk Try.prog Q5 := PKsOk.anyF Q4_ok 15 drefoS drefoO
theorem Q6_ok : PKsOk Try.prog Q6 := PKsOk.anyF Q5_ok 13 slS slO
theorem Q7_ok : PKsOk Try.prog Q7 := PKsOk.anyF Q6_ok 17 clashS clashO
theorem Q8_ok : PKsOk Try.prog Q8 := PKsOk.anyF Q7_ok 18 crefS crefO
theorem Q9_ok : PKsOk Try.prog Q9 := PKsOk.anyF Q8_ok 16 saS saO
theorem Qa_ok : PKsOk Try.prog Qa := PKsOk.anyF Q9_ok 19 mayS mayO
theorem Qb_ok : PKsOk Try.prog Qb := PKsOk.anyF Qa_ok 20 mrefS mrefO
theorem Qc_ok : PKsOk Try.prog Qc := PKsOk.anyF Qb_ok 21 granS granO
theorem Qd_ok : PKsOk Try.prog Qd := PKsOk.anyF Qc_ok 22 grefoS grefoO
theorem Qe_ok : PKsOk Try.prog Qe := PKsOk.anyF Qd_ok 23 pruneS pruneO
theorem Qf_ok : PKsOk Try.prog Qf := PKsOk.anyF Qe_ok 24 prefS prefO
noncomputable def la_h (px : Bool) (picks : List Int) (wx : Bool) (wild : List Lease_T) (x : Lease_T) (now client file : Int) : Option (Ex × St) := headK Try.prog cfg Qf LP0 3 0 [.slc px (picks.map (mkV false [Lf.fi .u8])), .slc wx (wild.map (mkV true Lease_tfs)), .agg (Tu.mk Lease_tfs x), .int .u8 now, .int .i64 client, .int .i64 file] []
noncomputable def la_h_r (px : Bool) (picks : List Int) (wx : Bool) (wild : List Lease_T) (x : Lease_T) (now : Int) (client : Int) (file : Int) : Option (Ex × St) :=
  oK (begunS.dec [] []) fun (d0 : PUnit) =>
  bK (decide (40 < (↑(List.map (mkV false [Lf.fi IntKind.u8]) picks).length : Int))) (some (Ex.ret, { fr := [(12, AV.bool true), (27, AV.bool true), (26, AV.skp), (25, AV.skp), (24, AV.skp), (23, AV.bool true), (22, AV.bool (decide (40 < (↑(List.map (mkV false [Lf.fi IntKind.u8]) picks).length : Int)))), (21, AV.int IntKind.i64 (↑(List.map (mkV false [Lf.fi IntKind.u8]) picks).length : Int)), (20, AV.slc px (List.map (mkV false [Lf.fi IntKind.u8]) picks)), (19, AV.bool false), (18, AV.bool true), (12, AV.bool false), (8, AV.ptr 128 0 0 0), (0, AV.slc px (List.map (mkV false [Lf.fi IntKind.u8]) picks)), (1, AV.slc wx (List.map (mkV true Lease_tfs) wild)), (2, AV.agg [AV.int IntKind.i64 x.fst, AV.int IntKind.i64 x.snd.fst, AV.int IntKind.i64 x.snd.snd.fst, AV.int IntKind.i64 x.snd.snd.snd]), (3, AV.int IntKind.u8 now), (4, AV.int IntKind.i64 client), (5, AV.int IntKind.i64 file)], bs := [(128, { v := 0, k := BK.box, fz := false, sz := 0, es := [AV.int IntKind.i64 x.fst, AV.int IntKind.i64 x.snd.fst, AV.int IntKind.i64 x.snd.snd.fst, AV.int IntKind.i64 x.snd.snd.snd] })], df := [] }))
    (bK (decide (6 < (↑(List.map (mkV true Lease_tfs) wild).length : Int))) (some (Ex.ret, { fr := [(12, AV.bool true), (27, AV.bool true), (26, AV.bool (decide (6 < (↑(List.map (mkV true Lease_tfs) wild).length : Int)))), (25, AV.int IntKind.i64 (↑(List.map (mkV true Lease_tfs) wild).length : Int)), (24, AV.slc wx (List.map (mkV true Lease_tfs) wild)), (23, AV.bool false), (22, AV.bool (decide (40 < (↑(List.map (mkV false [Lf.fi IntKind.u8]) picks).length : Int)))), (21, AV.int IntKind.i64 (↑(List.map (mkV false [Lf.fi IntKind.u8]) picks).length : Int)), (20, AV.slc px (List.map (mkV false [Lf.fi IntKind.u8]) picks)), (19, AV.bool false), (18, AV.bool true), (12, AV.bool false), (8, AV.ptr 128 0 0 0), (0, AV.slc px (List.map (mkV false [Lf.fi IntKind.u8]) picks)), (1, AV.slc wx (List.map (mkV true Lease_tfs) wild)), (2, AV.agg [AV.int IntKind.i64 x.fst, AV.int IntKind.i64 x.snd.fst, AV.int IntKind.i64 x.snd.snd.fst, AV.int IntKind.i64 x.snd.snd.snd]), (3, AV.int IntKind.u8 now), (4, AV.int IntKind.i64 client), (5, AV.int IntKind.i64 file)], bs := [(128, { v := 0, k := BK.box, fz := false, sz := 0, es := [AV.int IntKind.i64 x.fst, AV.int IntKind.i64 x.snd.fst, AV.int IntKind.i64 x.snd.snd.fst, AV.int IntKind.i64 x.snd.snd.snd] })], df := [] }))
      (oK (leasS.dec [AV.ptr 1000000 0 0 0] [{ v := 0, k := BK.box, fz := false, sz := 0, es := [AV.slc px (List.map (mkV false [Lf.fi IntKind.u8]) picks), AV.int IntKind.i64 0] }]) fun (d1 : ((Bool × List Int) × Int) × PUnit) => some (Ex.exit 999999, { fr := [(1, AV.slc wx (List.map (mkV true Lease_tfs) wild)), (3, AV.int IntKind.u8 now), (4, AV.int IntKind.i64 client), (5, AV.int IntKind.i64 file), (8, AV.ptr 128 0 0 0), (13, AV.slc (leaX true (numF d1.fst 8).snd) (List.map (mkV true Lease_tfs) (leaL [] (numF d1.fst 8).fst (numF d1.fst 8).snd))), (14, AV.int IntKind.i64 0)], bs := [(128, { v := 0, k := BK.box, fz := false, sz := 0, es := [AV.int IntKind.i64 x.fst, AV.int IntKind.i64 x.snd.fst, AV.int IntKind.i64 x.snd.snd.fst, AV.int IntKind.i64 x.snd.snd.snd] })], df := [] })))
theorem la_h_w (px : Bool) (picks : List Int) (wx : Bool) (wild : List Lease_T) (x : Lease_T) (now : Int) (client : Int) (file : Int) : la_h px picks wx wild x now client file = la_h_r px picks wx wild x now client file := by kernel_rfl

def l2hh (wx : Bool) (wild : List Lease_T) (now client file : Int) (x : Lease_T) (lx : Bool) (l : List Lease_T) (c f : Int) : St := { fr := [(1, .slc wx (wild.map (mkV true Lease_tfs))), (3, .int .u8 now), (4, .int .i64 client), (5, .int .i64 file), (8, .ptr 128 0 0 0), (13, .slc lx (l.map (mkV true Lease_tfs))), (14, .int .i64 c), (15, .int .i64 f)], bs := [(128, boxB (Tu.mk Lease_tfs x))], df := [] }
noncomputable def l2_s (wx : Bool) (wild : List Lease_T) (now client file : Int) (x : Lease_T) (lx : Bool) (l : List Lease_T) (c f : Int) : Option (St ⊕ (Ex × St)) := stepK Try.prog cfg Qf LP0 3 2 (l2hh wx wild now client file x lx l c f)
noncomputable def l2_s_r (wx : Bool) (wild : List Lease_T) (now : Int) (client : Int) (file : Int) (x : Lease_T) (lx : Bool) (l : List Lease_T) (c : Int) (f : Int) : Option (St ⊕ Ex × St) :=
  bK (decide (f < 5))
  (oK (holdsS.dec [AV.slc lx (List.map (mkV true Lease_tfs) l), AV.int IntKind.i64 (IntKind.i64.wrap now), AV.int IntKind.i64 c, AV.int IntKind.i64 f] []) fun (d0 : (Bool × List (Int × Int × Int × Int)) × Int × Int × Int) =>
    oK (hrefS.dec [AV.slc lx (List.map (mkV true Lease_tfs) l), AV.int IntKind.i64 (IntKind.i64.wrap now), AV.int IntKind.i64 c, AV.int IntKind.i64 f] []) fun (d1 : (Bool × List (Int × Int × Int × Int)) × Int × Int × Int) =>
      bK (!decide (holdQ d0.fst.snd d0.snd.fst d0.snd.snd.fst d0.snd.snd.snd = rhQ d1.fst.snd d1.snd.fst d1.snd.snd.fst d1.snd.snd.snd)) (some (Sum.inr (Ex.ret, { fr := [(1, AV.slc wx (List.map (mkV true Lease_tfs) wild)), (3, AV.int IntKind.u8 now), (4, AV.int IntKind.i64 client), (5, AV.int IntKind.i64 file), (8, AV.ptr 128 0 0 0), (12, AV.bool false), (13, AV.slc lx (List.map (mkV true Lease_tfs) l)), (14, AV.int IntKind.i64 c)], bs := [(128, { v := 0, k := BK.box, fz := false, sz := 0, es := [AV.int IntKind.i64 x.fst, AV.int IntKind.i64 x.snd.fst, AV.int IntKind.i64 x.snd.snd.fst, AV.int IntKind.i64 x.snd.snd.snd] })], df := [] })))
        (oK (dropS.dec [AV.slc lx (List.map (mkV true Lease_tfs) l), AV.int IntKind.i64 c, AV.int IntKind.i64 f] []) fun (d2 : (Bool × List (Int × Int × Int × Int)) × Int × Int) =>
          oK (drefoS.dec [AV.slc lx (List.map (mkV true Lease_tfs) l), AV.int IntKind.i64 c, AV.int IntKind.i64 f] []) fun (d3 : (Bool × List (Int × Int × Int × Int)) × Int × Int) =>
            bK (List.map (mkV true Lease_tfs) (dropQ d3.fst.snd d3.snd.fst d3.snd.snd)).isEmpty
              (oK (slS.dec [AV.slc d2.fst.snd.isEmpty (List.map (mkV true Lease_tfs) (dropQ d2.fst.snd d2.snd.fst d2.snd.snd)), AV.slc true []] []) fun (d4 : (Bool × List (Int × Int × Int × Int)) × Bool × List (Int × Int × Int × Int)) =>
                bK (!slQ d4.fst.snd d4.snd.snd) (some (Sum.inr (Ex.ret, { fr := [(1, AV.slc wx (List.map (mkV true Lease_tfs) wild)), (3, AV.int IntKind.u8 now), (4, AV.int IntKind.i64 client), (5, AV.int IntKind.i64 file), (8, AV.ptr 128 0 0 0), (12, AV.bool false), (13, AV.slc lx (List.map (mkV true Lease_tfs) l)), (14, AV.int IntKind.i64 c)], bs := [(128, { v := 0, k := BK.box, fz := false, sz := 0, es := [AV.int IntKind.i64 x.fst, AV.int IntKind.i64 x.snd.fst, AV.int IntKind.i64 x.snd.snd.fst, AV.int IntKind.i64 x.snd.snd.snd] })], df := [] })))
                  (oK (clashS.dec [AV.slc lx (List.map (mkV true Lease_tfs) l), AV.int IntKind.i64 (IntKind.i64.wrap now), AV.int IntKind.i64 c, AV.int IntKind.i64 f, AV.int IntKind.i64 1] []) fun (d5 : (Bool × List (Int × Int × Int × Int)) × Int × Int × Int × Int) =>
                    oK (crefS.dec [AV.slc lx (List.map (mkV true Lease_tfs) l), AV.int IntKind.i64 (IntKind.i64.wrap now), AV.int IntKind.i64 c, AV.int IntKind.i64 f, AV.int IntKind.i64 1] []) fun (d6 : (Bool × List (Int × Int × Int × Int)) × Int × Int × Int × Int) =>
                      oK (saS.dec [AV.slc (csF d5.fst.snd d5.snd.fst d5.snd.snd.fst d5.snd.snd.snd.fst d5.snd.snd.snd.snd).isEmpty (List.map (mkV false I1_tfs) (csF d5.fst.snd d5.snd.fst d5.snd.snd.fst d5.snd.snd.snd.fst d5.snd.snd.snd.snd)), AV.slc (rcF d6.fst.snd d6.snd.fst d6.snd.snd.fst d6.snd.snd.snd.fst d6.snd.snd.snd.snd).isEmpty (List.map (mkV false I1_tfs) (rcF d6.fst.snd d6.snd.fst d6.snd.snd.fst d6.snd.snd.snd.fst d6.snd.snd.snd.snd))] []) fun (d7 : (Bool × List Int) × Bool × List Int) =>
                        bK (!saQ d7.fst.snd d7.snd.snd) (some (Sum.inr (Ex.ret, { fr := [(1, AV.slc wx (List.map (mkV true Lease_tfs) wild)), (3, AV.int IntKind.u8 now), (4, AV.int IntKind.i64 client), (5, AV.int IntKind.i64 file), (8, AV.ptr 128 0 0 0), (12, AV.bool false), (13, AV.slc lx (List.map (mkV true Lease_tfs) l)), (14, AV.int IntKind.i64 c)], bs := [(128, { v := 0, k := BK.box, fz := false, sz := 0, es := [AV.int IntKind.i64 x.fst, AV.int IntKind.i64 x.snd.fst, AV.int IntKind.i64 x.snd.snd.fst, AV.int IntKind.i64 x.snd.snd.snd] })], df := [] })))
                          (oK (clashS.dec [AV.slc lx (List.map (mkV true Lease_tfs) l), AV.int IntKind.i64 (IntKind.i64.wrap now), AV.int IntKind.i64 c, AV.int IntKind.i64 f, AV.int IntKind.i64 2] []) fun (d8 : (Bool × List (Int × Int × Int × Int)) × Int × Int × Int × Int) =>
                            oK (crefS.dec [AV.slc lx (List.map (mkV true Lease_tfs) l), AV.int IntKind.i64 (IntKind.i64.wrap now), AV.int IntKind.i64 c, AV.int IntKind.i64 f, AV.int IntKind.i64 2] []) fun (d9 : (Bool × List (Int × Int × Int × Int)) × Int × Int × Int × Int) =>
                              oK (saS.dec [AV.slc (csF d8.fst.snd d8.snd.fst d8.snd.snd.fst d8.snd.snd.snd.fst d8.snd.snd.snd.snd).isEmpty (List.map (mkV false I1_tfs) (csF d8.fst.snd d8.snd.fst d8.snd.snd.fst d8.snd.snd.snd.fst d8.snd.snd.snd.snd)), AV.slc (rcF d9.fst.snd d9.snd.fst d9.snd.snd.fst d9.snd.snd.snd.fst d9.snd.snd.snd.snd).isEmpty (List.map (mkV false I1_tfs) (rcF d9.fst.snd d9.snd.fst d9.snd.snd.fst d9.snd.snd.snd.fst d9.snd.snd.snd.snd))] []) fun (d10 : (Bool × List Int) × Bool × List Int) =>
                                bK (!saQ d10.fst.snd d10.snd.snd) (some (Sum.inr (Ex.ret, { fr := [(1, AV.slc wx (List.map (mkV true Lease_tfs) wild)), (3, AV.int IntKind.u8 now), (4, AV.int IntKind.i64 client), (5, AV.int IntKind.i64 file), (8, AV.ptr 128 0 0 0), (12, AV.bool false), (13, AV.slc lx (List.map (mkV true Lease_tfs) l)), (14, AV.int IntKind.i64 c)], bs := [(128, { v := 0, k := BK.box, fz := false, sz := 0, es := [AV.int IntKind.i64 x.fst, AV.int IntKind.i64 x.snd.fst, AV.int IntKind.i64 x.snd.snd.fst, AV.int IntKind.i64 x.snd.snd.snd] })], df := [] }))) (some (Sum.inl { fr := [(1, AV.slc wx (List.map (mkV true Lease_tfs) wild)), (3, AV.int IntKind.u8 now), (4, AV.int IntKind.i64 client), (5, AV.int IntKind.i64 file), (8, AV.ptr 128 0 0 0), (13, AV.slc lx (List.map (mkV true Lease_tfs) l)), (14, AV.int IntKind.i64 c), (15, AV.int IntKind.i64 (IntKind.i64.wrap (f + 1)))], bs := [(128, { v := 0, k := BK.box, fz := false, sz := 0, es := [AV.int IntKind.i64 x.fst, AV.int IntKind.i64 x.snd.fst, AV.int IntKind.i64 x.snd.snd.fst, AV.int IntKind.i64 x.snd.snd.snd] })], df := [] })))))
              (bK (decide (0 + (List.map (mkV true Lease_tfs) (dropQ d3.fst.snd d3.snd.fst d3.snd.snd)).length ≤ (List.map (mkV true Lease_tfs) (dropQ d3.fst.snd d3.snd.fst d3.snd.snd)).length))
                (oK (slS.dec [AV.slc d2.fst.snd.isEmpty (List.map (mkV true Lease_tfs) (dropQ d2.fst.snd d2.snd.fst d2.snd.snd)), AV.slc false (List.take (List.map (mkV true Lease_tfs) (dropQ d3.fst.snd d3.snd.fst d3.snd.snd)).length (List.drop 0 (List.map (mkV true Lease_tfs) (dropQ d3.fst.snd d3.snd.fst d3.snd.snd))))] []) fun (d11 : (Bool × List (Int × Int × Int × Int)) × Bool × List (Int × Int × Int × Int)) =>
                  bK (!slQ d11.fst.snd d11.snd.snd) (some (Sum.inr (Ex.ret, { fr := [(1, AV.slc wx (List.map (mkV true Lease_tfs) wild)), (3, AV.int IntKind.u8 now), (4, AV.int IntKind.i64 client), (5, AV.int IntKind.i64 file), (8, AV.ptr 128 0 0 0), (12, AV.bool false), (13, AV.slc lx (List.map (mkV true Lease_tfs) l)), (14, AV.int IntKind.i64 c)], bs := [(128, { v := 0, k := BK.box, fz := false, sz := 0, es := [AV.int IntKind.i64 x.fst, AV.int IntKind.i64 x.snd.fst, AV.int IntKind.i64 x.snd.snd.fst, AV.int IntKind.i64 x.snd.snd.snd] })], df := [] })))
                    (oK (clashS.dec [AV.slc lx (List.map (mkV true Lease_tfs) l), AV.int IntKind.i64 (IntKind.i64.wrap now), AV.int IntKind.i64 c, AV.int IntKind.i64 f, AV.int IntKind.i64 1] []) fun (d12 : (Bool × List (Int × Int × Int × Int)) × Int × Int × Int × Int) =>
                      oK (crefS.dec [AV.slc lx (List.map (mkV true Lease_tfs) l), AV.int IntKind.i64 (IntKind.i64.wrap now), AV.int IntKind.i64 c, AV.int IntKind.i64 f, AV.int IntKind.i64 1] []) fun (d13 : (Bool × List (Int × Int × Int × Int)) × Int × Int × Int × Int) =>
                        oK (saS.dec [AV.slc (csF d12.fst.snd d12.snd.fst d12.snd.snd.fst d12.snd.snd.snd.fst d12.snd.snd.snd.snd).isEmpty (List.map (mkV false I1_tfs) (csF d12.fst.snd d12.snd.fst d12.snd.snd.fst d12.snd.snd.snd.fst d12.snd.snd.snd.snd)), AV.slc (rcF d13.fst.snd d13.snd.fst d13.snd.snd.fst d13.snd.snd.snd.fst d13.snd.snd.snd.snd).isEmpty (List.map (mkV false I1_tfs) (rcF d13.fst.snd d13.snd.fst d13.snd.snd.fst d13.snd.snd.snd.fst d13.snd.snd.snd.snd))] []) fun (d14 : (Bool × List Int) × Bool × List Int) =>
                          bK (!saQ d14.fst.snd d14.snd.snd) (some (Sum.inr (Ex.ret, { fr := [(1, AV.slc wx (List.map (mkV true Lease_tfs) wild)), (3, AV.int IntKind.u8 now), (4, AV.int IntKind.i64 client), (5, AV.int IntKind.i64 file), (8, AV.ptr 128 0 0 0), (12, AV.bool false), (13, AV.slc lx (List.map (mkV true Lease_tfs) l)), (14, AV.int IntKind.i64 c)], bs := [(128, { v := 0, k := BK.box, fz := false, sz := 0, es := [AV.int IntKind.i64 x.fst, AV.int IntKind.i64 x.snd.fst, AV.int IntKind.i64 x.snd.snd.fst, AV.int IntKind.i64 x.snd.snd.snd] })], df := [] })))
                            (oK (clashS.dec [AV.slc lx (List.map (mkV true Lease_tfs) l), AV.int IntKind.i64 (IntKind.i64.wrap now), AV.int IntKind.i64 c, AV.int IntKind.i64 f, AV.int IntKind.i64 2] []) fun (d15 : (Bool × List (Int × Int × Int × Int)) × Int × Int × Int × Int) =>
                              oK (crefS.dec [AV.slc lx (List.map (mkV true Lease_tfs) l), AV.int IntKind.i64 (IntKind.i64.wrap now), AV.int IntKind.i64 c, AV.int IntKind.i64 f, AV.int IntKind.i64 2] []) fun (d16 : (Bool × List (Int × Int × Int × Int)) × Int × Int × Int × Int) =>
                                oK (saS.dec [AV.slc (csF d15.fst.snd d15.snd.fst d15.snd.snd.fst d15.snd.snd.snd.fst d15.snd.snd.snd.snd).isEmpty (List.map (mkV false I1_tfs) (csF d15.fst.snd d15.snd.fst d15.snd.snd.fst d15.snd.snd.snd.fst d15.snd.snd.snd.snd)), AV.slc (rcF d16.fst.snd d16.snd.fst d16.snd.snd.fst d16.snd.snd.snd.fst d16.snd.snd.snd.snd).isEmpty (List.map (mkV false I1_tfs) (rcF d16.fst.snd d16.snd.fst d16.snd.snd.fst d16.snd.snd.snd.fst d16.snd.snd.snd.snd))] []) fun (d17 : (Bool × List Int) × Bool × List Int) =>
                                  bK (!saQ d17.fst.snd d17.snd.snd) (some (Sum.inr (Ex.ret, { fr := [(1, AV.slc wx (List.map (mkV true Lease_tfs) wild)), (3, AV.int IntKind.u8 now), (4, AV.int IntKind.i64 client), (5, AV.int IntKind.i64 file), (8, AV.ptr 128 0 0 0), (12, AV.bool false), (13, AV.slc lx (List.map (mkV true Lease_tfs) l)), (14, AV.int IntKind.i64 c)], bs := [(128, { v := 0, k := BK.box, fz := false, sz := 0, es := [AV.int IntKind.i64 x.fst, AV.int IntKind.i64 x.snd.fst, AV.int IntKind.i64 x.snd.snd.fst, AV.int IntKind.i64 x.snd.snd.snd] })], df := [] }))) (some (Sum.inl { fr := [(1, AV.slc wx (List.map (mkV true Lease_tfs) wild)), (3, AV.int IntKind.u8 now), (4, AV.int IntKind.i64 client), (5, AV.int IntKind.i64 file), (8, AV.ptr 128 0 0 0), (13, AV.slc lx (List.map (mkV true Lease_tfs) l)), (14, AV.int IntKind.i64 c), (15, AV.int IntKind.i64 (IntKind.i64.wrap (f + 1)))], bs := [(128, { v := 0, k := BK.box, fz := false, sz := 0, es := [AV.int IntKind.i64 x.fst, AV.int IntKind.i64 x.snd.fst, AV.int IntKind.i64 x.snd.snd.fst, AV.int IntKind.i64 x.snd.snd.snd] })], df := [] })))))
                none)))
  (some (Sum.inr (Ex.exit 2, { fr := [(1, AV.slc wx (List.map (mkV true Lease_tfs) wild)), (3, AV.int IntKind.u8 now), (4, AV.int IntKind.i64 client), (5, AV.int IntKind.i64 file), (8, AV.ptr 128 0 0 0), (13, AV.slc lx (List.map (mkV true Lease_tfs) l)), (14, AV.int IntKind.i64 c)], bs := [(128, { v := 0, k := BK.box, fz := false, sz := 0, es := [AV.int IntKind.i64 x.fst, AV.int IntKind.i64 x.snd.fst, AV.int IntKind.i64 x.snd.snd.fst, AV.int IntKind.i64 x.snd.snd.snd] })], df := [] })))
theorem l2_s_w (wx : Bool) (wild : List Lease_T) (now : Int) (client : Int) (file : Int) (x : Lease_T) (lx : Bool) (l : List Lease_T) (c : Int) (f : Int) : l2_s wx wild now client file x lx l c f = l2_s_r wx wild now client file x lx l c f := by kernel_rfl

theorem rcF_len (l : List Lease_T) (now c f m : Int) : (rcF l now c f m).length ≤ 100000 := by
  have key : ∀ (j : Nat) (k : Int), (rcN l now c f m j k).length ≤ j := by
    intro j
    induction j with
    | zero => intro k; exact Nat.le_refl _
    | succ j ih =>
      intro k
      unfold rcN
      have := ih (k + 1)
      split
      · simp; omega
      · simp; omega
  have := key 3 1
  show (rcN l now c f m 3 1).length ≤ 100000
  omega
theorem l2_e (wx : Bool) (wild : List Lease_T) (now client file : Int) (x : Lease_T) (lx : Bool) (l : List Lease_T) (c f : Int) (hi : LInv l) (hl : l.length ≤ 1000) (hf : 0 ≤ f ∧ f < 5) : l2_s wx wild now client file x lx l c f = some (.inl (l2hh wx wild now client file x lx l c (f + 1))) := by
  have hb : l.length ≤ 100000 := by omega
  have hd : (dropQ l c f).length ≤ l.length := List.length_filter_le _ _
  have hd2 : (dropQ l c f).length ≤ 100000 := by omega
  refine (l2_s_w wx wild now client file x lx l c f).trans ?_
  unfold l2_s_r
  rw [bK_pos (decide_eq_true hf.2), w64 (n := f + 1) (by omega) (by omega)]
  refine oK_fsq (Q := fun z => z = _) holdsS ((lx, l), IntKind.i64.wrap now, c, f) hb ?_
  refine oK_fsq (Q := fun z => z = _) hrefS ((lx, l), IntKind.i64.wrap now, c, f) hb ?_
  refine bK_fq (Q := fun z => z = _) (by dsimp only; rw [rh_eq hi.srt]; simp) ?_
  refine oK_fsq (Q := fun z => z = _) dropS ((lx, l), c, f) hb ?_
  refine oK_fsq (Q := fun z => z = _) drefoS ((lx, l), c, f) hb ?_
  dsimp only
  cases hq : dropQ l c f with
  | nil =>
    refine bK_tq (Q := fun z => z = _) rfl ?_
    refine oK_fsq (Q := fun z => z = _) slS ((l.isEmpty, []), (true, [])) (by show 0 ≤ 100000; decide) ?_
    refine bK_fq (Q := fun z => z = _) (by dsimp only; rw [sl_refl]; rfl) ?_
    refine oK_fsq (Q := fun z => z = _) clashS ((lx, l), IntKind.i64.wrap now, c, f, (1 : Int)) hb ?_
    refine oK_fsq (Q := fun z => z = _) crefS ((lx, l), IntKind.i64.wrap now, c, f, (1 : Int)) hb ?_
    dsimp only
    rw [clash_eq hi]
    refine oK_fsq (Q := fun z => z = _) saS ((_, rcF l (IntKind.i64.wrap now) c f 1), (_, rcF l (IntKind.i64.wrap now) c f 1)) (rcF_len l _ _ _ _) ?_
    refine bK_fq (Q := fun z => z = _) (by rw [sa_refl]; rfl) ?_
    refine oK_fsq (Q := fun z => z = _) clashS ((lx, l), IntKind.i64.wrap now, c, f, (2 : Int)) hb ?_
    refine oK_fsq (Q := fun z => z = _) crefS ((lx, l), IntKind.i64.wrap now, c, f, (2 : Int)) hb ?_
    dsimp only
    rw [clash_eq hi]
    refine oK_fsq (Q := fun z => z = _) saS ((_, rcF l (IntKind.i64.wrap now) c f 2), (_, rcF l (IntKind.i64.wrap now) c f 2)) (rcF_len l _ _ _ _) ?_
    refine bK_fq (Q := fun z => z = _) (by rw [sa_refl]; rfl) ?_
    rfl
  | cons a r =>
    rw [hq] at hd2
    refine bK_fq (Q := fun z => z = _) rfl (bK_tq (Q := fun z => z = _) (by simp) ?_)
    rw [List.drop_zero, List.take_length]
    refine oK_fsq (Q := fun z => z = _) slS ((l.isEmpty, a :: r), (false, a :: r)) hd2 ?_
    refine bK_fq (Q := fun z => z = _) (by dsimp only; rw [sl_refl]; rfl) ?_
    refine oK_fsq (Q := fun z => z = _) clashS ((lx, l), IntKind.i64.wrap now, c, f, (1 : Int)) hb ?_
    refine oK_fsq (Q := fun z => z = _) crefS ((lx, l), IntKind.i64.wrap now, c, f, (1 : Int)) hb ?_
    dsimp only
    rw [clash_eq hi]
    refine oK_fsq (Q := fun z => z = _) saS ((_, rcF l (IntKind.i64.wrap now) c f 1), (_, rcF l (IntKind.i64.wrap now) c f 1)) (rcF_len l _ _ _ _) ?_
    refine bK_fq (Q := fun z => z = _) (by rw [sa_refl]; rfl) ?_
    refine oK_fsq (Q := fun z => z = _) clashS ((lx, l), IntKind.i64.wrap now, c, f, (2 : Int)) hb ?_
    refine oK_fsq (Q := fun z => z = _) crefS ((lx, l), IntKind.i64.wrap now, c, f, (2 : Int)) hb ?_
    dsimp only
    rw [clash_eq hi]
    refine oK_fsq (Q := fun z => z = _) saS ((_, rcF l (IntKind.i64.wrap now) c f 2), (_, rcF l (IntKind.i64.wrap now) c f 2)) (rcF_len l _ _ _ _) ?_
    refine bK_fq (Q := fun z => z = _) (by rw [sa_refl]; rfl) ?_
    rfl
theorem gl3 : (loopsOf 0 (codeOf Try.prog 3)).map (·.1) = [0, 2, 4] := by kernel_rfl
theorem go3 : OneLoops Try.prog 3 := by unfold OneLoops; rw [gl3]; decide
theorem ga30 : At 0 (codeOf Try.prog 3) 0 (.loop (bodyAt Try.prog 3 0)) := at_body go3 (by rw [gl3]; decide)
theorem ga32 : At 0 (codeOf Try.prog 3) 2 (.loop (bodyAt Try.prog 3 2)) := at_body go3 (by rw [gl3]; decide)
theorem l2_run (wx : Bool) (wild : List Lease_T) (now client file : Int) (x : Lease_T) (lx : Bool) (l : List Lease_T) (c : Int) (hi : LInv l) (hl : l.length ≤ 1000) : ∀ (j : Nat) (f : Int), 0 ≤ f → f + j = 5 → ∀ (fu : Nat), j < fu → Runs' Try.prog cfg Qf 3 2 fu (l2hh wx wild now client file x lx l c f) (.exit 2, { fr := [(1, .slc wx (wild.map (mkV true Lease_tfs))), (3, .int .u8 now), (4, .int .i64 client), (5, .int .i64 file), (8, .ptr 128 0 0 0), (13, .slc lx (l.map (mkV true Lease_tfs))), (14, .int .i64 c)], bs := [(128, boxB (Tu.mk Lease_tfs x))], df := [] })
  | 0, f, h1, hk, fu + 1, hf => by
    refine Runs'.done (lp := LP0) LPok.none ga32 ((l2_s_w wx wild now client file x lx l c f).trans ?_)
    unfold l2_s_r
    exact bK_neg (decide_eq_false (by omega))
  | j + 1, f, h1, hk, fu + 1, hf => Runs'.step (lp := LP0) LPok.none ga32 (l2_e wx wild now client file x lx l c f hi hl ⟨h1, by omega⟩) (l2_run wx wild now client file x lx l c hi hl j (f + 1) (by omega) (by omega) fu (by omega))
abbrev L2D : Type := ((Bool × List Lease_T) × Int × Int × Int × Lease_T × Bool × List Lease_T) × Int
def l2Hd (d : L2D) : St := l2hh d.1.1.1 d.1.1.2 d.1.2.1 d.1.2.2.1 d.1.2.2.2.1 d.1.2.2.2.2.1 d.1.2.2.2.2.2.1 d.1.2.2.2.2.2.2 d.2 0
theorem l2Hd_inj (d d' : L2D) (h : l2Hd d = l2Hd d') : d = d' := by
  obtain ⟨⟨⟨wx, wild⟩, now, client, file, x, lx, l⟩, c⟩ := d
  obtain ⟨⟨⟨wx', wild'⟩, now', client', file', x', lx', l'⟩, c'⟩ := d'
  simp only [l2Hd, l2hh, boxB, St.mk.injEq, List.cons.injEq, Prod.mk.injEq, AV.slc.injEq, AV.int.injEq, Blk.mk.injEq, and_true, true_and] at h
  obtain ⟨⟨⟨h1, h2⟩, h3, h4, h5, ⟨h6, h7⟩, h8⟩, h9⟩ := h
  rw [h1, map_inj (fs := Lease_tfs) rfl h2, h3, h4, h5, h6, map_inj (fs := Lease_tfs) rfl h7, h8, mk_inj (fs := Lease_tfs) rfl h9]
noncomputable def l2L : LP := LP.of l2Hd (fun d => LInv d.1.2.2.2.2.2.2 ∧ d.1.2.2.2.2.2.2.length ≤ 1000) fun d => .leaf (.exit 2, { fr := [(1, .slc d.1.1.1 (d.1.1.2.map (mkV true Lease_tfs))), (3, .int .u8 d.1.2.1), (4, .int .i64 d.1.2.2.1), (5, .int .i64 d.1.2.2.2.1), (8, .ptr 128 0 0 0), (13, .slc d.1.2.2.2.2.2.1 (d.1.2.2.2.2.2.2.map (mkV true Lease_tfs))), (14, .int .i64 d.2)], bs := [(128, boxB (Tu.mk Lease_tfs d.1.2.2.2.2.1))], df := [] })
noncomputable def l2P : LPs := LPs.add LP0 3 2 l2L
theorem l2P_ok : LPok Try.prog cfg Qf l2P 3 := LPok.addH LPok.none go3 (by
  rintro ⟨⟨⟨wx, wild⟩, now, client, file, x, lx, l⟩, c⟩ ⟨h1, h2⟩
  exact l2_run wx wild now client file x lx l c h1 h2 5 0 (by omega) (by omega) rounds (by simp only [rounds]; omega))
def l0hh (wx : Bool) (wild : List Lease_T) (now client file : Int) (x : Lease_T) (lx : Bool) (l : List Lease_T) (c : Int) : St := { fr := [(1, .slc wx (wild.map (mkV true Lease_tfs))), (3, .int .u8 now), (4, .int .i64 client), (5, .int .i64 file), (8, .ptr 128 0 0 0), (13, .slc lx (l.map (mkV true Lease_tfs))), (14, .int .i64 c)], bs := [(128, boxB (Tu.mk Lease_tfs x))], df := [] }
noncomputable def l0_s (wx : Bool) (wild : List Lease_T) (now client file : Int) (x : Lease_T) (lx : Bool) (l : List Lease_T) (c : Int) : Option (St ⊕ (Ex × St)) := stepK Try.prog cfg Qf l2P 3 0 (l0hh wx wild now client file x lx l c)
noncomputable def l0_s_r (wx : Bool) (wild : List Lease_T) (now : Int) (client : Int) (file : Int) (x : Lease_T) (lx : Bool) (l : List Lease_T) (c : Int) : Option (St ⊕ Ex × St) :=
  bK (decide (c < 5)) (oK (l2L.dec { fr := [(1, AV.slc wx (List.map (mkV true Lease_tfs) wild)), (3, AV.int IntKind.u8 now), (4, AV.int IntKind.i64 client), (5, AV.int IntKind.i64 file), (8, AV.ptr 128 0 0 0), (13, AV.slc lx (List.map (mkV true Lease_tfs) l)), (14, AV.int IntKind.i64 c), (15, AV.int IntKind.i64 0)], bs := [(128, { v := 0, k := BK.box, fz := false, sz := 0, es := [AV.int IntKind.i64 x.fst, AV.int IntKind.i64 x.snd.fst, AV.int IntKind.i64 x.snd.snd.fst, AV.int IntKind.i64 x.snd.snd.snd] })], df := [] }) fun (d0 : ((Bool × List (Int × Int × Int × Int)) × Int × Int × Int × (Int × Int × Int × Int) × Bool × List (Int × Int × Int × Int)) × Int) => some (Sum.inl { fr := [(1, AV.slc d0.fst.fst.fst (List.map (mkV true Lease_tfs) d0.fst.fst.snd)), (3, AV.int IntKind.u8 d0.fst.snd.fst), (4, AV.int IntKind.i64 d0.fst.snd.snd.fst), (5, AV.int IntKind.i64 d0.fst.snd.snd.snd.fst), (8, AV.ptr 128 0 0 0), (13, AV.slc d0.fst.snd.snd.snd.snd.snd.fst (List.map (mkV true Lease_tfs) d0.fst.snd.snd.snd.snd.snd.snd)), (14, AV.int IntKind.i64 (IntKind.i64.wrap (d0.snd + 1)))], bs := [(128, { v := 0, k := BK.box, fz := false, sz := 0, es := [AV.int IntKind.i64 d0.fst.snd.snd.snd.snd.fst.fst, AV.int IntKind.i64 d0.fst.snd.snd.snd.snd.fst.snd.fst, AV.int IntKind.i64 d0.fst.snd.snd.snd.snd.fst.snd.snd.fst, AV.int IntKind.i64 d0.fst.snd.snd.snd.snd.fst.snd.snd.snd] })], df := [] }))
  (some (Sum.inr (Ex.exit 0, { fr := [(1, AV.slc wx (List.map (mkV true Lease_tfs) wild)), (3, AV.int IntKind.u8 now), (4, AV.int IntKind.i64 client), (5, AV.int IntKind.i64 file), (8, AV.ptr 128 0 0 0), (13, AV.slc lx (List.map (mkV true Lease_tfs) l))], bs := [(128, { v := 0, k := BK.box, fz := false, sz := 0, es := [AV.int IntKind.i64 x.fst, AV.int IntKind.i64 x.snd.fst, AV.int IntKind.i64 x.snd.snd.fst, AV.int IntKind.i64 x.snd.snd.snd] })], df := [] })))
theorem l0_s_w (wx : Bool) (wild : List Lease_T) (now : Int) (client : Int) (file : Int) (x : Lease_T) (lx : Bool) (l : List Lease_T) (c : Int) : l0_s wx wild now client file x lx l c = l0_s_r wx wild now client file x lx l c := by kernel_rfl

theorem l0_run (wx : Bool) (wild : List Lease_T) (now client file : Int) (x : Lease_T) (lx : Bool) (l : List Lease_T) (hi : LInv l) (hl : l.length ≤ 1000) : ∀ (j : Nat) (c : Int), 0 ≤ c → c + j = 5 → ∀ (fu : Nat), j < fu → Runs' Try.prog cfg Qf 3 0 fu (l0hh wx wild now client file x lx l c) (.exit 0, { fr := [(1, .slc wx (wild.map (mkV true Lease_tfs))), (3, .int .u8 now), (4, .int .i64 client), (5, .int .i64 file), (8, .ptr 128 0 0 0), (13, .slc lx (l.map (mkV true Lease_tfs)))], bs := [(128, boxB (Tu.mk Lease_tfs x))], df := [] })
  | 0, c, h1, hk, fu + 1, hf => by
    refine Runs'.done (lp := l2P) l2P_ok ga30 ((l0_s_w wx wild now client file x lx l c).trans ?_)
    unfold l0_s_r
    exact bK_neg (decide_eq_false (by omega))
  | j + 1, c, h1, hk, fu + 1, hf => by
    refine Runs'.step (lp := l2P) l2P_ok ga30 ((l0_s_w wx wild now client file x lx l c).trans ?_) (l0_run wx wild now client file x lx l hi hl j (c + 1) (by omega) (by omega) fu (by omega))
    unfold l0_s_r
    rw [bK_pos (decide_eq_true (by omega))]
    refine oK_lpq (Q := fun z => z = _) l2Hd_inj (((wx, wild), now, client, file, x, lx, l), c) ⟨hi, hl⟩ ?_
    dsimp only
    rw [w64 (n := c + 1) (by omega) (by omega)]
    rfl
abbrev L0D : Type := (Bool × List Lease_T) × Int × Int × Int × Lease_T × Bool × List Lease_T
def l0Hd (d : L0D) : St := l0hh d.1.1 d.1.2 d.2.1 d.2.2.1 d.2.2.2.1 d.2.2.2.2.1 d.2.2.2.2.2.1 d.2.2.2.2.2.2 0
theorem l0Hd_inj (d d' : L0D) (h : l0Hd d = l0Hd d') : d = d' := by
  obtain ⟨⟨wx, wild⟩, now, client, file, x, lx, l⟩ := d
  obtain ⟨⟨wx', wild'⟩, now', client', file', x', lx', l'⟩ := d'
  simp only [l0Hd, l0hh, boxB, St.mk.injEq, List.cons.injEq, Prod.mk.injEq, AV.slc.injEq, AV.int.injEq, Blk.mk.injEq, and_true, true_and] at h
  obtain ⟨⟨⟨h1, h2⟩, h3, h4, h5, ⟨h6, h7⟩⟩, h9⟩ := h
  rw [h1, map_inj (fs := Lease_tfs) rfl h2, h3, h4, h5, h6, map_inj (fs := Lease_tfs) rfl h7, mk_inj (fs := Lease_tfs) rfl h9]
noncomputable def l0L : LP := LP.of l0Hd (fun d => LInv d.2.2.2.2.2.2 ∧ d.2.2.2.2.2.2.length ≤ 1000) fun d => .leaf (.exit 0, { fr := [(1, .slc d.1.1 (d.1.2.map (mkV true Lease_tfs))), (3, .int .u8 d.2.1), (4, .int .i64 d.2.2.1), (5, .int .i64 d.2.2.2.1), (8, .ptr 128 0 0 0), (13, .slc d.2.2.2.2.2.1 (d.2.2.2.2.2.2.map (mkV true Lease_tfs)))], bs := [(128, boxB (Tu.mk Lease_tfs d.2.2.2.2.1))], df := [] })
noncomputable def l0P : LPs := LPs.add l2P 3 0 l0L
theorem l0P_ok : LPok Try.prog cfg Qf l0P 3 := LPok.addH l2P_ok go3 (by
  rintro ⟨⟨wx, wild⟩, now, client, file, x, lx, l⟩ ⟨h1, h2⟩
  exact l0_run wx wild now client file x lx l h1 h2 5 0 (by omega) (by omega) rounds (by simp only [rounds]; omega))
abbrev leaseAll_id : Nat := 3
abbrev leaseAll_sh : Shp := [none, none, some 4, none, none, none]
abbrev leaseAll_fs : List Lf := [.fl false [.fi .u8], .fl true Lease_tfs, .fi .i64, .fi .i64, .fi .i64, .fi .i64, .fi .u8, .fi .i64, .fi .i64]
abbrev leaseAll_rsh : Shp := [none]
abbrev leaseAll_rfs : List Lf := [.fb]
noncomputable def leaseAll_r (picks_x : Bool) (picks : List Int) (wild_x : Bool) (wild : List Lease_T) (x_Client : Int) (x_File : Int) (x_Mode : Int) (x_Until : Int) (now : Int) (client : Int) (file : Int) : Option Ret :=
  oK (begunS.dec [] []) fun (d0 : PUnit) =>
  bK (decide (40 < (↑(List.map (mkV false [Lf.fi IntKind.u8]) picks).length : Int))) (some { pan := false, res := AV.bool true, out := [], new := [] })
    (bK (decide (6 < (↑(List.map (mkV true Lease_tfs) wild).length : Int))) (some { pan := false, res := AV.bool true, out := [], new := [] })
      (oK (leasS.dec [AV.ptr 1000000 0 0 0] [{ v := 0, k := BK.box, fz := false, sz := 0, es := [AV.slc picks_x (List.map (mkV false [Lf.fi IntKind.u8]) picks), AV.int IntKind.i64 0] }]) fun (d1 : ((Bool × List Int) × Int) × PUnit) =>
        oK (l0L.dec { fr := [(1, AV.slc wild_x (List.map (mkV true Lease_tfs) wild)), (3, AV.int IntKind.u8 now), (4, AV.int IntKind.i64 client), (5, AV.int IntKind.i64 file), (8, AV.ptr 128 0 0 0), (13, AV.slc (leaX true (numF d1.fst 8).snd) (List.map (mkV true Lease_tfs) (leaL [] (numF d1.fst 8).fst (numF d1.fst 8).snd))), (14, AV.int IntKind.i64 0)], bs := [(128, { v := 0, k := BK.box, fz := false, sz := 0, es := [AV.int IntKind.i64 x_Client, AV.int IntKind.i64 x_File, AV.int IntKind.i64 x_Mode, AV.int IntKind.i64 x_Until] })], df := [] }) fun (d2 : (Bool × List (Int × Int × Int × Int)) × Int × Int × Int × (Int × Int × Int × Int) × Bool × List (Int × Int × Int × Int)) =>
          oK (mayS.dec [AV.slc d2.snd.snd.snd.snd.snd.fst (List.map (mkV true Lease_tfs) d2.snd.snd.snd.snd.snd.snd)] []) fun (d3 : Bool × List (Int × Int × Int × Int)) =>
            bK (mayQ d3.snd)
              (oK (mayS.dec [AV.slc d2.fst.fst (List.map (mkV true Lease_tfs) d2.fst.snd)] []) fun (d4 : Bool × List (Int × Int × Int × Int)) =>
                oK (mrefS.dec [AV.slc d2.fst.fst (List.map (mkV true Lease_tfs) d2.fst.snd)] []) fun (d5 : Bool × List (Int × Int × Int × Int)) =>
                  bK (mayQ d4.snd == mayQ d5.snd)
                    (oK (granS.dec [AV.slc d2.snd.snd.snd.snd.snd.fst (List.map (mkV true Lease_tfs) d2.snd.snd.snd.snd.snd.snd), AV.agg [AV.int IntKind.i64 (IntKind.i64.wrap (1 + IntKind.i64.wrap (d2.snd.fst.tmod 3))), AV.int IntKind.i64 (IntKind.i64.wrap (1 + IntKind.i64.wrap ((IntKind.u8.wrap (d2.snd.fst.tdiv 3)).tmod 3))), AV.int IntKind.i64 (IntKind.i64.wrap (1 + IntKind.i64.wrap (d2.snd.fst.tmod 2))), AV.int IntKind.i64 (IntKind.i64.wrap (IntKind.i64.wrap d2.snd.fst * 2))]] []) fun (d6 : (Bool × List (Int × Int × Int × Int)) × Int × Int × Int × Int) =>
                      oK (grefoS.dec [AV.slc d2.snd.snd.snd.snd.snd.fst (List.map (mkV true Lease_tfs) d2.snd.snd.snd.snd.snd.snd), AV.agg [AV.int IntKind.i64 (IntKind.i64.wrap (1 + IntKind.i64.wrap (d2.snd.fst.tmod 3))), AV.int IntKind.i64 (IntKind.i64.wrap (1 + IntKind.i64.wrap ((IntKind.u8.wrap (d2.snd.fst.tdiv 3)).tmod 3))), AV.int IntKind.i64 (IntKind.i64.wrap (1 + IntKind.i64.wrap (d2.snd.fst.tmod 2))), AV.int IntKind.i64 (IntKind.i64.wrap (IntKind.i64.wrap d2.snd.fst * 2))]] []) fun (d7 : (Bool × List (Int × Int × Int × Int)) × Int × Int × Int × Int) =>
                        bK (List.map (mkV true Lease_tfs) (grefQ d7.fst.snd d7.snd)).isEmpty
                          (oK (slS.dec [AV.slc false (List.map (mkV true Lease_tfs) (granQ d6.fst.snd d6.snd)), AV.slc true []] []) fun (d8 : (Bool × List (Int × Int × Int × Int)) × Bool × List (Int × Int × Int × Int)) =>
                            bK (slQ d8.fst.snd d8.snd.snd)
                              (oK (mrefS.dec [AV.slc false [AV.agg [AV.int IntKind.i64 d2.snd.snd.snd.snd.fst.fst, AV.int IntKind.i64 d2.snd.snd.snd.snd.fst.snd.fst, AV.int IntKind.i64 d2.snd.snd.snd.snd.fst.snd.snd.fst, AV.int IntKind.i64 d2.snd.snd.snd.snd.fst.snd.snd.snd]]] []) fun (d9 : Bool × List (Int × Int × Int × Int)) =>
                                bK (!mayQ d9.snd)
                                  (oK (pruneS.dec [AV.slc d2.snd.snd.snd.snd.snd.fst (List.map (mkV true Lease_tfs) d2.snd.snd.snd.snd.snd.snd), AV.int IntKind.i64 (IntKind.i64.wrap d2.snd.fst)] []) fun (d10 : (Bool × List (Int × Int × Int × Int)) × Int) =>
                                    oK (prefS.dec [AV.slc d2.snd.snd.snd.snd.snd.fst (List.map (mkV true Lease_tfs) d2.snd.snd.snd.snd.snd.snd), AV.int IntKind.i64 (IntKind.i64.wrap d2.snd.fst)] []) fun (d11 : (Bool × List (Int × Int × Int × Int)) × Int) => oK (slS.dec [AV.slc d10.fst.snd.isEmpty (List.map (mkV true Lease_tfs) (pruneQ d10.fst.snd d10.snd)), AV.slc (pruneQ d11.fst.snd d11.snd).isEmpty (List.map (mkV true Lease_tfs) (pruneQ d11.fst.snd d11.snd))] []) fun (d12 : (Bool × List (Int × Int × Int × Int)) × Bool × List (Int × Int × Int × Int)) => bK (slQ d12.fst.snd d12.snd.snd) (oK (holdsS.dec [AV.slc d2.snd.snd.snd.snd.snd.fst (List.map (mkV true Lease_tfs) d2.snd.snd.snd.snd.snd.snd), AV.int IntKind.i64 (IntKind.i64.wrap d2.snd.fst), AV.int IntKind.i64 d2.snd.snd.fst, AV.int IntKind.i64 d2.snd.snd.snd.fst] []) fun (d13 : (Bool × List (Int × Int × Int × Int)) × Int × Int × Int) => oK (hrefS.dec [AV.slc d2.snd.snd.snd.snd.snd.fst (List.map (mkV true Lease_tfs) d2.snd.snd.snd.snd.snd.snd), AV.int IntKind.i64 (IntKind.i64.wrap d2.snd.fst), AV.int IntKind.i64 d2.snd.snd.fst, AV.int IntKind.i64 d2.snd.snd.snd.fst] []) fun (d14 : (Bool × List (Int × Int × Int × Int)) × Int × Int × Int) => some { pan := false, res := AV.bool (decide (holdQ d13.fst.snd d13.snd.fst d13.snd.snd.fst d13.snd.snd.snd = rhQ d14.fst.snd d14.snd.fst d14.snd.snd.fst d14.snd.snd.snd)), out := [], new := [] }) (some { pan := false, res := AV.bool false, out := [], new := [] }))
                                  (oK (granS.dec [AV.slc d2.snd.snd.snd.snd.snd.fst (List.map (mkV true Lease_tfs) d2.snd.snd.snd.snd.snd.snd), AV.agg [AV.int IntKind.i64 d2.snd.snd.snd.snd.fst.fst, AV.int IntKind.i64 d2.snd.snd.snd.snd.fst.snd.fst, AV.int IntKind.i64 d2.snd.snd.snd.snd.fst.snd.snd.fst, AV.int IntKind.i64 d2.snd.snd.snd.snd.fst.snd.snd.snd]] []) fun (d15 : (Bool × List (Int × Int × Int × Int)) × Int × Int × Int × Int) =>
                                    oK (grefoS.dec [AV.slc d2.snd.snd.snd.snd.snd.fst (List.map (mkV true Lease_tfs) d2.snd.snd.snd.snd.snd.snd), AV.agg [AV.int IntKind.i64 d2.snd.snd.snd.snd.fst.fst, AV.int IntKind.i64 d2.snd.snd.snd.snd.fst.snd.fst, AV.int IntKind.i64 d2.snd.snd.snd.snd.fst.snd.snd.fst, AV.int IntKind.i64 d2.snd.snd.snd.snd.fst.snd.snd.snd]] []) fun (d16 : (Bool × List (Int × Int × Int × Int)) × Int × Int × Int × Int) =>
                                      bK (List.map (mkV true Lease_tfs) (grefQ d16.fst.snd d16.snd)).isEmpty
                                        (oK (slS.dec [AV.slc false (List.map (mkV true Lease_tfs) (granQ d15.fst.snd d15.snd)), AV.slc true []] []) fun (d17 : (Bool × List (Int × Int × Int × Int)) × Bool × List (Int × Int × Int × Int)) =>
                                          bK (slQ d17.fst.snd d17.snd.snd)
                                            (oK (pruneS.dec [AV.slc d2.snd.snd.snd.snd.snd.fst (List.map (mkV true Lease_tfs) d2.snd.snd.snd.snd.snd.snd), AV.int IntKind.i64 (IntKind.i64.wrap d2.snd.fst)] []) fun (d18 : (Bool × List (Int × Int × Int × Int)) × Int) =>
                                              oK (prefS.dec [AV.slc d2.snd.snd.snd.snd.snd.fst (List.map (mkV true Lease_tfs) d2.snd.snd.snd.snd.snd.snd), AV.int IntKind.i64 (IntKind.i64.wrap d2.snd.fst)] []) fun (d19 : (Bool × List (Int × Int × Int × Int)) × Int) => oK (slS.dec [AV.slc d18.fst.snd.isEmpty (List.map (mkV true Lease_tfs) (pruneQ d18.fst.snd d18.snd)), AV.slc (pruneQ d19.fst.snd d19.snd).isEmpty (List.map (mkV true Lease_tfs) (pruneQ d19.fst.snd d19.snd))] []) fun (d20 : (Bool × List (Int × Int × Int × Int)) × Bool × List (Int × Int × Int × Int)) => bK (slQ d20.fst.snd d20.snd.snd) (oK (holdsS.dec [AV.slc d2.snd.snd.snd.snd.snd.fst (List.map (mkV true Lease_tfs) d2.snd.snd.snd.snd.snd.snd), AV.int IntKind.i64 (IntKind.i64.wrap d2.snd.fst), AV.int IntKind.i64 d2.snd.snd.fst, AV.int IntKind.i64 d2.snd.snd.snd.fst] []) fun (d21 : (Bool × List (Int × Int × Int × Int)) × Int × Int × Int) => oK (hrefS.dec [AV.slc d2.snd.snd.snd.snd.snd.fst (List.map (mkV true Lease_tfs) d2.snd.snd.snd.snd.snd.snd), AV.int IntKind.i64 (IntKind.i64.wrap d2.snd.fst), AV.int IntKind.i64 d2.snd.snd.fst, AV.int IntKind.i64 d2.snd.snd.snd.fst] []) fun (d22 : (Bool × List (Int × Int × Int × Int)) × Int × Int × Int) => some { pan := false, res := AV.bool (decide (holdQ d21.fst.snd d21.snd.fst d21.snd.snd.fst d21.snd.snd.snd = rhQ d22.fst.snd d22.snd.fst d22.snd.snd.fst d22.snd.snd.snd)), out := [], new := [] }) (some { pan := false, res := AV.bool false, out := [], new := [] }))
                                            (some { pan := false, res := AV.bool false, out := [], new := [] }))
                                        (bK (decide (0 + (List.map (mkV true Lease_tfs) (grefQ d16.fst.snd d16.snd)).length ≤ (List.map (mkV true Lease_tfs) (grefQ d16.fst.snd d16.snd)).length))
                                          (oK (slS.dec [AV.slc false (List.map (mkV true Lease_tfs) (granQ d15.fst.snd d15.snd)), AV.slc false (List.take (List.map (mkV true Lease_tfs) (grefQ d16.fst.snd d16.snd)).length (List.drop 0 (List.map (mkV true Lease_tfs) (grefQ d16.fst.snd d16.snd))))] []) fun (d23 : (Bool × List (Int × Int × Int × Int)) × Bool × List (Int × Int × Int × Int)) =>
                                            bK (slQ d23.fst.snd d23.snd.snd)
                                              (oK (pruneS.dec [AV.slc d2.snd.snd.snd.snd.snd.fst (List.map (mkV true Lease_tfs) d2.snd.snd.snd.snd.snd.snd), AV.int IntKind.i64 (IntKind.i64.wrap d2.snd.fst)] []) fun (d24 : (Bool × List (Int × Int × Int × Int)) × Int) =>
                                                oK (prefS.dec [AV.slc d2.snd.snd.snd.snd.snd.fst (List.map (mkV true Lease_tfs) d2.snd.snd.snd.snd.snd.snd), AV.int IntKind.i64 (IntKind.i64.wrap d2.snd.fst)] []) fun (d25 : (Bool × List (Int × Int × Int × Int)) × Int) => oK (slS.dec [AV.slc d24.fst.snd.isEmpty (List.map (mkV true Lease_tfs) (pruneQ d24.fst.snd d24.snd)), AV.slc (pruneQ d25.fst.snd d25.snd).isEmpty (List.map (mkV true Lease_tfs) (pruneQ d25.fst.snd d25.snd))] []) fun (d26 : (Bool × List (Int × Int × Int × Int)) × Bool × List (Int × Int × Int × Int)) => bK (slQ d26.fst.snd d26.snd.snd) (oK (holdsS.dec [AV.slc d2.snd.snd.snd.snd.snd.fst (List.map (mkV true Lease_tfs) d2.snd.snd.snd.snd.snd.snd), AV.int IntKind.i64 (IntKind.i64.wrap d2.snd.fst), AV.int IntKind.i64 d2.snd.snd.fst, AV.int IntKind.i64 d2.snd.snd.snd.fst] []) fun (d27 : (Bool × List (Int × Int × Int × Int)) × Int × Int × Int) => oK (hrefS.dec [AV.slc d2.snd.snd.snd.snd.snd.fst (List.map (mkV true Lease_tfs) d2.snd.snd.snd.snd.snd.snd), AV.int IntKind.i64 (IntKind.i64.wrap d2.snd.fst), AV.int IntKind.i64 d2.snd.snd.fst, AV.int IntKind.i64 d2.snd.snd.snd.fst] []) fun (d28 : (Bool × List (Int × Int × Int × Int)) × Int × Int × Int) => some { pan := false, res := AV.bool (decide (holdQ d27.fst.snd d27.snd.fst d27.snd.snd.fst d27.snd.snd.snd = rhQ d28.fst.snd d28.snd.fst d28.snd.snd.fst d28.snd.snd.snd)), out := [], new := [] }) (some { pan := false, res := AV.bool false, out := [], new := [] }))
                                              (some { pan := false, res := AV.bool false, out := [], new := [] }))
                                          none)))
                              (some { pan := false, res := AV.bool false, out := [], new := [] }))
                          (bK (decide (0 + (List.map (mkV true Lease_tfs) (grefQ d7.fst.snd d7.snd)).length ≤ (List.map (mkV true Lease_tfs) (grefQ d7.fst.snd d7.snd)).length))
                            (oK (slS.dec [AV.slc false (List.map (mkV true Lease_tfs) (granQ d6.fst.snd d6.snd)), AV.slc false (List.take (List.map (mkV true Lease_tfs) (grefQ d7.fst.snd d7.snd)).length (List.drop 0 (List.map (mkV true Lease_tfs) (grefQ d7.fst.snd d7.snd))))] []) fun (d29 : (Bool × List (Int × Int × Int × Int)) × Bool × List (Int × Int × Int × Int)) =>
                              bK (slQ d29.fst.snd d29.snd.snd)
                                (oK (mrefS.dec [AV.slc false [AV.agg [AV.int IntKind.i64 d2.snd.snd.snd.snd.fst.fst, AV.int IntKind.i64 d2.snd.snd.snd.snd.fst.snd.fst, AV.int IntKind.i64 d2.snd.snd.snd.snd.fst.snd.snd.fst, AV.int IntKind.i64 d2.snd.snd.snd.snd.fst.snd.snd.snd]]] []) fun (d30 : Bool × List (Int × Int × Int × Int)) =>
                                  bK (!mayQ d30.snd)
                                    (oK (pruneS.dec [AV.slc d2.snd.snd.snd.snd.snd.fst (List.map (mkV true Lease_tfs) d2.snd.snd.snd.snd.snd.snd), AV.int IntKind.i64 (IntKind.i64.wrap d2.snd.fst)] []) fun (d31 : (Bool × List (Int × Int × Int × Int)) × Int) =>
                                      oK (prefS.dec [AV.slc d2.snd.snd.snd.snd.snd.fst (List.map (mkV true Lease_tfs) d2.snd.snd.snd.snd.snd.snd), AV.int IntKind.i64 (IntKind.i64.wrap d2.snd.fst)] []) fun (d32 : (Bool × List (Int × Int × Int × Int)) × Int) => oK (slS.dec [AV.slc d31.fst.snd.isEmpty (List.map (mkV true Lease_tfs) (pruneQ d31.fst.snd d31.snd)), AV.slc (pruneQ d32.fst.snd d32.snd).isEmpty (List.map (mkV true Lease_tfs) (pruneQ d32.fst.snd d32.snd))] []) fun (d33 : (Bool × List (Int × Int × Int × Int)) × Bool × List (Int × Int × Int × Int)) => bK (slQ d33.fst.snd d33.snd.snd) (oK (holdsS.dec [AV.slc d2.snd.snd.snd.snd.snd.fst (List.map (mkV true Lease_tfs) d2.snd.snd.snd.snd.snd.snd), AV.int IntKind.i64 (IntKind.i64.wrap d2.snd.fst), AV.int IntKind.i64 d2.snd.snd.fst, AV.int IntKind.i64 d2.snd.snd.snd.fst] []) fun (d34 : (Bool × List (Int × Int × Int × Int)) × Int × Int × Int) => oK (hrefS.dec [AV.slc d2.snd.snd.snd.snd.snd.fst (List.map (mkV true Lease_tfs) d2.snd.snd.snd.snd.snd.snd), AV.int IntKind.i64 (IntKind.i64.wrap d2.snd.fst), AV.int IntKind.i64 d2.snd.snd.fst, AV.int IntKind.i64 d2.snd.snd.snd.fst] []) fun (d35 : (Bool × List (Int × Int × Int × Int)) × Int × Int × Int) => some { pan := false, res := AV.bool (decide (holdQ d34.fst.snd d34.snd.fst d34.snd.snd.fst d34.snd.snd.snd = rhQ d35.fst.snd d35.snd.fst d35.snd.snd.fst d35.snd.snd.snd)), out := [], new := [] }) (some { pan := false, res := AV.bool false, out := [], new := [] }))
                                    (oK (granS.dec [AV.slc d2.snd.snd.snd.snd.snd.fst (List.map (mkV true Lease_tfs) d2.snd.snd.snd.snd.snd.snd), AV.agg [AV.int IntKind.i64 d2.snd.snd.snd.snd.fst.fst, AV.int IntKind.i64 d2.snd.snd.snd.snd.fst.snd.fst, AV.int IntKind.i64 d2.snd.snd.snd.snd.fst.snd.snd.fst, AV.int IntKind.i64 d2.snd.snd.snd.snd.fst.snd.snd.snd]] []) fun (d36 : (Bool × List (Int × Int × Int × Int)) × Int × Int × Int × Int) =>
                                      oK (grefoS.dec [AV.slc d2.snd.snd.snd.snd.snd.fst (List.map (mkV true Lease_tfs) d2.snd.snd.snd.snd.snd.snd), AV.agg [AV.int IntKind.i64 d2.snd.snd.snd.snd.fst.fst, AV.int IntKind.i64 d2.snd.snd.snd.snd.fst.snd.fst, AV.int IntKind.i64 d2.snd.snd.snd.snd.fst.snd.snd.fst, AV.int IntKind.i64 d2.snd.snd.snd.snd.fst.snd.snd.snd]] []) fun (d37 : (Bool × List (Int × Int × Int × Int)) × Int × Int × Int × Int) =>
                                        bK (List.map (mkV true Lease_tfs) (grefQ d37.fst.snd d37.snd)).isEmpty
                                          (oK (slS.dec [AV.slc false (List.map (mkV true Lease_tfs) (granQ d36.fst.snd d36.snd)), AV.slc true []] []) fun (d38 : (Bool × List (Int × Int × Int × Int)) × Bool × List (Int × Int × Int × Int)) =>
                                            bK (slQ d38.fst.snd d38.snd.snd)
                                              (oK (pruneS.dec [AV.slc d2.snd.snd.snd.snd.snd.fst (List.map (mkV true Lease_tfs) d2.snd.snd.snd.snd.snd.snd), AV.int IntKind.i64 (IntKind.i64.wrap d2.snd.fst)] []) fun (d39 : (Bool × List (Int × Int × Int × Int)) × Int) =>
                                                oK (prefS.dec [AV.slc d2.snd.snd.snd.snd.snd.fst (List.map (mkV true Lease_tfs) d2.snd.snd.snd.snd.snd.snd), AV.int IntKind.i64 (IntKind.i64.wrap d2.snd.fst)] []) fun (d40 : (Bool × List (Int × Int × Int × Int)) × Int) => oK (slS.dec [AV.slc d39.fst.snd.isEmpty (List.map (mkV true Lease_tfs) (pruneQ d39.fst.snd d39.snd)), AV.slc (pruneQ d40.fst.snd d40.snd).isEmpty (List.map (mkV true Lease_tfs) (pruneQ d40.fst.snd d40.snd))] []) fun (d41 : (Bool × List (Int × Int × Int × Int)) × Bool × List (Int × Int × Int × Int)) => bK (slQ d41.fst.snd d41.snd.snd) (oK (holdsS.dec [AV.slc d2.snd.snd.snd.snd.snd.fst (List.map (mkV true Lease_tfs) d2.snd.snd.snd.snd.snd.snd), AV.int IntKind.i64 (IntKind.i64.wrap d2.snd.fst), AV.int IntKind.i64 d2.snd.snd.fst, AV.int IntKind.i64 d2.snd.snd.snd.fst] []) fun (d42 : (Bool × List (Int × Int × Int × Int)) × Int × Int × Int) => oK (hrefS.dec [AV.slc d2.snd.snd.snd.snd.snd.fst (List.map (mkV true Lease_tfs) d2.snd.snd.snd.snd.snd.snd), AV.int IntKind.i64 (IntKind.i64.wrap d2.snd.fst), AV.int IntKind.i64 d2.snd.snd.fst, AV.int IntKind.i64 d2.snd.snd.snd.fst] []) fun (d43 : (Bool × List (Int × Int × Int × Int)) × Int × Int × Int) => some { pan := false, res := AV.bool (decide (holdQ d42.fst.snd d42.snd.fst d42.snd.snd.fst d42.snd.snd.snd = rhQ d43.fst.snd d43.snd.fst d43.snd.snd.fst d43.snd.snd.snd)), out := [], new := [] }) (some { pan := false, res := AV.bool false, out := [], new := [] }))
                                              (some { pan := false, res := AV.bool false, out := [], new := [] }))
                                          (bK (decide (0 + (List.map (mkV true Lease_tfs) (grefQ d37.fst.snd d37.snd)).length ≤ (List.map (mkV true Lease_tfs) (grefQ d37.fst.snd d37.snd)).length))
                                            (oK (slS.dec [AV.slc false (List.map (mkV true Lease_tfs) (granQ d36.fst.snd d36.snd)), AV.slc false (List.take (List.map (mkV true Lease_tfs) (grefQ d37.fst.snd d37.snd)).length (List.drop 0 (List.map (mkV true Lease_tfs) (grefQ d37.fst.snd d37.snd))))] []) fun (d44 : (Bool × List (Int × Int × Int × Int)) × Bool × List (Int × Int × Int × Int)) =>
                                              bK (slQ d44.fst.snd d44.snd.snd)
                                                (oK (pruneS.dec [AV.slc d2.snd.snd.snd.snd.snd.fst (List.map (mkV true Lease_tfs) d2.snd.snd.snd.snd.snd.snd), AV.int IntKind.i64 (IntKind.i64.wrap d2.snd.fst)] []) fun (d45 : (Bool × List (Int × Int × Int × Int)) × Int) =>
                                                  oK (prefS.dec [AV.slc d2.snd.snd.snd.snd.snd.fst (List.map (mkV true Lease_tfs) d2.snd.snd.snd.snd.snd.snd), AV.int IntKind.i64 (IntKind.i64.wrap d2.snd.fst)] []) fun (d46 : (Bool × List (Int × Int × Int × Int)) × Int) => oK (slS.dec [AV.slc d45.fst.snd.isEmpty (List.map (mkV true Lease_tfs) (pruneQ d45.fst.snd d45.snd)), AV.slc (pruneQ d46.fst.snd d46.snd).isEmpty (List.map (mkV true Lease_tfs) (pruneQ d46.fst.snd d46.snd))] []) fun (d47 : (Bool × List (Int × Int × Int × Int)) × Bool × List (Int × Int × Int × Int)) => bK (slQ d47.fst.snd d47.snd.snd) (oK (holdsS.dec [AV.slc d2.snd.snd.snd.snd.snd.fst (List.map (mkV true Lease_tfs) d2.snd.snd.snd.snd.snd.snd), AV.int IntKind.i64 (IntKind.i64.wrap d2.snd.fst), AV.int IntKind.i64 d2.snd.snd.fst, AV.int IntKind.i64 d2.snd.snd.snd.fst] []) fun (d48 : (Bool × List (Int × Int × Int × Int)) × Int × Int × Int) => oK (hrefS.dec [AV.slc d2.snd.snd.snd.snd.snd.fst (List.map (mkV true Lease_tfs) d2.snd.snd.snd.snd.snd.snd), AV.int IntKind.i64 (IntKind.i64.wrap d2.snd.fst), AV.int IntKind.i64 d2.snd.snd.fst, AV.int IntKind.i64 d2.snd.snd.snd.fst] []) fun (d49 : (Bool × List (Int × Int × Int × Int)) × Int × Int × Int) => some { pan := false, res := AV.bool (decide (holdQ d48.fst.snd d48.snd.fst d48.snd.snd.fst d48.snd.snd.snd = rhQ d49.fst.snd d49.snd.fst d49.snd.snd.fst d49.snd.snd.snd)), out := [], new := [] }) (some { pan := false, res := AV.bool false, out := [], new := [] }))
                                                (some { pan := false, res := AV.bool false, out := [], new := [] }))
                                            none)))
                                (some { pan := false, res := AV.bool false, out := [], new := [] }))
                            none))
                    (some { pan := false, res := AV.bool false, out := [], new := [] }))
              (some { pan := false, res := AV.bool false, out := [], new := [] })))
theorem leaseAll_w (picks_x : Bool) (picks : List Int) (wild_x : Bool) (wild : List Lease_T) (x_Client : Int) (x_File : Int) (x_Mode : Int) (x_Until : Int) (now : Int) (client : Int) (file : Int) : unitQ Try.prog cfg Qf l0P true 3 (groupA leaseAll_sh (Tu.mk leaseAll_fs ((picks_x, picks), (wild_x, wild), x_Client, x_File, x_Mode, x_Until, now, client, file))) [] = leaseAll_r picks_x picks wild_x wild x_Client x_File x_Mode x_Until now client file := by kernel_rfl

theorem u8_rng (z : Int) : 0 ≤ IntKind.u8.wrap z ∧ IntKind.u8.wrap z ≤ 255 := by
  simp only [IntKind.wrap, IntKind.bits, IntKind.signed]
  simp
  omega
theorem may_one {x : Lease_T} (h : mayQ [x] = true) : okE x = true := by
  have h : (mayB [x] 0 && true) = true := h
  rw [Bool.and_true] at h
  unfold mayB at h
  rw [Bool.and_eq_true] at h
  exact h.1
theorem leaseAll_yes (picks_x : Bool) (picks : List Int) (wild_x : Bool) (wild : List Lease_T) (x_Client : Int) (x_File : Int) (x_Mode : Int) (x_Until : Int) (now : Int) (client : Int) (file : Int) (h : Tu.wf leaseAll_fs ((picks_x, picks), (wild_x, wild), x_Client, x_File, x_Mode, x_Until, now, client, file)) : Yes (leaseAll_r picks_x picks wild_x wild x_Client x_File x_Mode x_Until now client file) := by
  have hp := wf8 h.1.2
  have hn : (0 : Int) ≤ now ∧ now ≤ 255 := h.2.2.2.2.2.2.1
  unfold leaseAll_r
  refine oK_fsq (Q := Yes) begunS () trivial ?_
  refine bK_iq (Q := Yes) (fun _ => yes_leaf) (fun c1 => ?_)
  refine bK_iq (Q := Yes) (fun _ => yes_leaf) (fun c2 => ?_)
  rw [List.length_map] at c1 c2
  have hpk : pkOk ((picks_x, picks), 0) := ⟨by simp, by simp, by show picks.length ≤ 2 ^ 62; omega, hp⟩
  refine oK_msq (Q := Yes) leasS ((picks_x, picks), (0 : Int)) () hpk ?_
  dsimp only
  have b8 := numF_lt hpk (m := 8) (by omega)
  obtain ⟨hi, hl⟩ := lea_inv (numF ((picks_x, picks), 0) 8).2.toNat (numF ((picks_x, picks), 0) 8).1 [] (numF_ok hpk) LInv.nil
  have el : leaL [] (numF ((picks_x, picks), 0) 8).1 (numF ((picks_x, picks), 0) 8).2 = (leaN (numF ((picks_x, picks), 0) 8).2.toNat (numF ((picks_x, picks), 0) 8).1 []).2 := rfl
  rw [← el] at hi hl
  generalize leaL [] (numF ((picks_x, picks), 0) 8).1 (numF ((picks_x, picks), 0) 8).2 = l at hi hl
  generalize leaX true (numF ((picks_x, picks), 0) 8).2 = lx
  have hll : l.length ≤ 1000 := by simp only [List.length_nil] at hl; omega
  have hb : l.length ≤ 100000 := by omega
  have hwb : wild.length ≤ 100000 := by omega
  refine oK_lpq (Q := Yes) l0Hd_inj ((wild_x, wild), now, client, file, (x_Client, x_File, x_Mode, x_Until), lx, l) ⟨hi, hll⟩ ?_
  dsimp only
  refine oK_fsq (Q := Yes) mayS (lx, l) hb ?_
  refine bK_tq (Q := Yes) hi.may ?_
  refine oK_fsq (Q := Yes) mayS (wild_x, wild) hwb ?_
  refine oK_fsq (Q := Yes) mrefS (wild_x, wild) hwb ?_
  refine bK_tq (Q := Yes) (by simp) ?_
  have hy : okE (IntKind.i64.wrap (1 + IntKind.i64.wrap (now.tmod 3)), IntKind.i64.wrap (1 + IntKind.i64.wrap ((IntKind.u8.wrap (now.tdiv 3)).tmod 3)), IntKind.i64.wrap (1 + IntKind.i64.wrap (now.tmod 2)), IntKind.i64.wrap (IntKind.i64.wrap now * 2)) = true := by
    obtain ⟨e1, e2, e3⟩ := tm_lt now 3 hn (by omega)
    obtain ⟨e4, e5, e6⟩ := tm_lt (IntKind.u8.wrap (now.tdiv 3)) 3 (u8_rng _) (by omega)
    obtain ⟨e7, e8, e9⟩ := tm_lt now 2 hn (by omega)
    rw [e1, e4, e7, w64 (n := now) (by omega) (by omega), w64 (by omega) (by omega), okE_iff]
    simp only
    omega
  generalize hyd : (IntKind.i64.wrap (1 + IntKind.i64.wrap (now.tmod 3)), IntKind.i64.wrap (1 + IntKind.i64.wrap ((IntKind.u8.wrap (now.tdiv 3)).tmod 3)), IntKind.i64.wrap (1 + IntKind.i64.wrap (now.tmod 2)), IntKind.i64.wrap (IntKind.i64.wrap now * 2)) = y at hy
  have hy2 : y = (y.1, y.2.1, y.2.2.1, y.2.2.2) := rfl
  have e1 : IntKind.i64.wrap (1 + IntKind.i64.wrap (now.tmod 3)) = y.1 := congrArg (·.1) hyd
  have e2 : IntKind.i64.wrap (1 + IntKind.i64.wrap ((IntKind.u8.wrap (now.tdiv 3)).tmod 3)) = y.2.1 := congrArg (·.2.1) hyd
  have e3 : IntKind.i64.wrap (1 + IntKind.i64.wrap (now.tmod 2)) = y.2.2.1 := congrArg (·.2.2.1) hyd
  have e4 : IntKind.i64.wrap (IntKind.i64.wrap now * 2) = y.2.2.2 := congrArg (·.2.2.2) hyd
  rw [e1, e2, e3, e4]
  refine oK_fsq (Q := Yes) granS ((lx, l), y) hb ?_
  refine oK_fsq (Q := Yes) grefoS ((lx, l), y) hb ?_
  dsimp only
  rw [gran_eq hi hy]
  refine bK_fq (Q := Yes) (isE (gref_len l y).2) (bK_tq (Q := Yes) (by simp) ?_)
  rw [List.drop_zero, List.take_length]
  refine oK_fsq (Q := Yes) slS ((false, grefQ l y), (false, grefQ l y)) (by have := (gref_len l y).1; show (grefQ l y).length ≤ 100000; omega) ?_
  refine bK_tq (Q := Yes) (sl_refl _) ?_
  refine oK_fsq (Q := Yes) mrefS (false, [((x_Client, x_File, x_Mode, x_Until) : Lease_T)]) (by show 1 ≤ 100000; decide) ?_
  dsimp only
  cases hx : mayQ [((x_Client, x_File, x_Mode, x_Until) : Lease_T)] with
  | false =>
    refine bK_tq (Q := Yes) rfl ?_
    refine oK_fsq (Q := Yes) pruneS ((lx, l), IntKind.i64.wrap now) hb ?_
    refine oK_fsq (Q := Yes) prefS ((lx, l), IntKind.i64.wrap now) hb ?_
    refine oK_fsq (Q := Yes) slS ((_, pruneQ l (IntKind.i64.wrap now)), (_, pruneQ l (IntKind.i64.wrap now))) (Nat.le_trans (List.length_filter_le _ _) hb) ?_
    refine bK_tq (Q := Yes) (sl_refl _) ?_
    refine oK_fsq (Q := Yes) holdsS ((lx, l), IntKind.i64.wrap now, client, file) hb ?_
    refine oK_fsq (Q := Yes) hrefS ((lx, l), IntKind.i64.wrap now, client, file) hb ?_
    exact yes_of (decide_eq_true (rh_eq hi.srt _ _ _).symm)
  | true =>
    have hx := may_one hx
    refine bK_fq (Q := Yes) rfl ?_
    refine oK_fsq (Q := Yes) granS ((lx, l), ((x_Client, x_File, x_Mode, x_Until) : Lease_T)) hb ?_
    refine oK_fsq (Q := Yes) grefoS ((lx, l), ((x_Client, x_File, x_Mode, x_Until) : Lease_T)) hb ?_
    dsimp only
    rw [gran_eq hi hx]
    refine bK_fq (Q := Yes) (isE (gref_len l ((x_Client, x_File, x_Mode, x_Until) : Lease_T)).2) (bK_tq (Q := Yes) (by simp) ?_)
    rw [List.drop_zero, List.take_length]
    refine oK_fsq (Q := Yes) slS ((false, grefQ l ((x_Client, x_File, x_Mode, x_Until) : Lease_T)), (false, grefQ l ((x_Client, x_File, x_Mode, x_Until) : Lease_T))) (by have := (gref_len l ((x_Client, x_File, x_Mode, x_Until) : Lease_T)).1; show (grefQ l ((x_Client, x_File, x_Mode, x_Until) : Lease_T)).length ≤ 100000; omega) ?_
    refine bK_tq (Q := Yes) (sl_refl _) ?_
    refine oK_fsq (Q := Yes) pruneS ((lx, l), IntKind.i64.wrap now) hb ?_
    refine oK_fsq (Q := Yes) prefS ((lx, l), IntKind.i64.wrap now) hb ?_
    refine oK_fsq (Q := Yes) slS ((_, pruneQ l (IntKind.i64.wrap now)), (_, pruneQ l (IntKind.i64.wrap now))) (Nat.le_trans (List.length_filter_le _ _) hb) ?_
    refine bK_tq (Q := Yes) (sl_refl _) ?_
    refine oK_fsq (Q := Yes) holdsS ((lx, l), IntKind.i64.wrap now, client, file) hb ?_
    refine oK_fsq (Q := Yes) hrefS ((lx, l), IntKind.i64.wrap now, client, file) hb ?_
    exact yes_of (decide_eq_true (rh_eq hi.srt _ _ _).symm)


end Go.Proofs.Ytbifdenekkijfaa
