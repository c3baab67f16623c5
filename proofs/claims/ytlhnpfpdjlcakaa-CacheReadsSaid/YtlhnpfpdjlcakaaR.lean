/- A part of the proof: contracts of functions. -/
import Derived.Test.YtlhnpfpdjlcakaaC
import Derived.Test.YtlhnpfpdjlcakaaAbCl

set_option linter.unusedVariables false
set_option linter.unusedSimpArgs false
set_option maxRecDepth 100000
namespace Go.Proofs.Ytlhnpfpdjlcakaa
open Go Go.Ab
noncomputable def PKe0 : PKs := PKd.add 13 viewCS.pk
theorem PKe0_ok : PKsOk Try.prog PKe0 := PKsOk.take PKd_ok PKv1_ok rfl
noncomputable def PKe1 : PKs := PKe0.add 14 viewRS.pk
theorem PKe1_ok : PKsOk Try.prog PKe1 := PKsOk.take PKe0_ok PKv2_ok rfl
noncomputable def PKe2 : PKs := PKe1.add 15 resetCS.pk
theorem PKe2_ok : PKsOk Try.prog PKe2 := PKsOk.take PKe1_ok PKv3_ok rfl
noncomputable def PKe3 : PKs := PKe2.add 16 resetRS.pk
theorem PKe3_ok : PKsOk Try.prog PKe3 := PKsOk.take PKe2_ok PKv4_ok rfl
noncomputable def PKe4 : PKs := PKe3.add 22 lapseRS.pk
theorem PKe4_ok : PKsOk Try.prog PKe4 := PKsOk.take PKe3_ok PKv5_ok rfl
noncomputable def PKe5 : PKs := PKe4.add 20 validXS.pk
theorem PKe5_ok : PKsOk Try.prog PKe5 := PKsOk.take PKe4_ok PKv6_ok rfl
noncomputable def PKe6 : PKs := PKe5.add 25 letCS.pk
theorem PKe6_ok : PKsOk Try.prog PKe6 := PKsOk.take PKe5_ok PKv7_ok rfl
noncomputable def PKe7 : PKs := PKe6.add 26 letXS.pk
theorem PKe7_ok : PKsOk Try.prog PKe7 := PKsOk.take PKe6_ok PKv8_ok rfl
noncomputable def PKe8 : PKs := PKe7.add 24 bufXS.pk
theorem PKe8_ok : PKsOk Try.prog PKe8 := PKsOk.take PKe7_ok PKv9_ok rfl
noncomputable def PKe9 : PKs := PKe8.add 23 bufS.pk
theorem PKe9_ok : PKsOk Try.prog PKe9 := PKsOk.take PKe8_ok PKv10_ok rfl
def rmHd (b : Picks_T) (c : Cache_T) (i : Int) : St := { fr := [(5, .ptr 80 0 0 0), (6, .ptr 400 0 0 0), (7, .int .i64 i)], bs := [(80, boxB (Tu.mk Cache_tfs c)), (400, boxB (Tu.mk Picks_tfs b))], df := [] }
noncomputable def rm_s (x : Bool) (l : List Int) (n : Int) (c : Cache_T) (i : Int) : Option (St ⊕ (Ex × St)) := stepK Try.prog cfg PKe9 LP0 7 0 (rmHd ((x, l), n) c i)
noncomputable def rm_s_r (x : Bool) (l : List Int) (n : Int) (c : Cache_T) (i : Int) : Option (St ⊕ Ex × St) :=
  bK (decide (i < 8))
  (oK (writeS.dec [AV.ptr 1000000 0 0 0] [{ v := 0, k := BK.box, fz := false, sz := 0, es := [AV.slc x (List.map (mkV false [Lf.fi IntKind.u8]) l), AV.int IntKind.i64 n] }]) fun (d0 : ((Bool × List Int) × Int) × PUnit) =>
    oK (bufS.dec [AV.agg [AV.int IntKind.i64 c.fst, AV.int IntKind.i64 c.snd.fst, AV.int IntKind.i64 c.snd.snd.fst, AV.str c.snd.snd.snd.fst, AV.slc c.snd.snd.snd.snd.fst.fst (List.map (mkV true Write_tfs) c.snd.snd.snd.snd.fst.snd), AV.int IntKind.i64 c.snd.snd.snd.snd.snd.fst, AV.bool c.snd.snd.snd.snd.snd.snd.fst, AV.bool c.snd.snd.snd.snd.snd.snd.snd], AV.agg [AV.int IntKind.i64 (writeF d0.fst).snd.fst, AV.str (writeF d0.fst).snd.snd]] []) fun (d1 : Int × Int × Int × List UInt8 × (Bool × List (Int × List UInt8)) × Int × Bool × Bool × Int × List UInt8) =>
      bK (decide (c.fst = 2))
        (bK (!(bOut (bufCF (bC d1) (bW d1))).snd.snd.snd.snd.snd.snd.snd.snd == decide ((↑(List.map (mkV true Write_tfs) c.snd.snd.snd.snd.fst.snd).length : Int) < 5)) (some (Sum.inr (Ex.ret, { fr := [(4, AV.bool false)], bs := [], df := [] })))
          (bK (!(bOut (bufCF (bC d1) (bW d1))).snd.snd.snd.snd.snd.snd.snd.snd)
            (oK (sameCS.dec [AV.agg [AV.int IntKind.i64 (bOut (bufCF (bC d1) (bW d1))).fst, AV.int IntKind.i64 (bOut (bufCF (bC d1) (bW d1))).snd.fst, AV.int IntKind.i64 (bOut (bufCF (bC d1) (bW d1))).snd.snd.fst, AV.str (bOut (bufCF (bC d1) (bW d1))).snd.snd.snd.fst, AV.slc (bOut (bufCF (bC d1) (bW d1))).snd.snd.snd.snd.fst.fst (List.map (mkV true Write_tfs) (bOut (bufCF (bC d1) (bW d1))).snd.snd.snd.snd.fst.snd), AV.int IntKind.i64 (bOut (bufCF (bC d1) (bW d1))).snd.snd.snd.snd.snd.fst, AV.bool (bOut (bufCF (bC d1) (bW d1))).snd.snd.snd.snd.snd.snd.fst, AV.bool (bOut (bufCF (bC d1) (bW d1))).snd.snd.snd.snd.snd.snd.snd.fst], AV.agg [AV.int IntKind.i64 c.fst, AV.int IntKind.i64 c.snd.fst, AV.int IntKind.i64 c.snd.snd.fst, AV.str c.snd.snd.snd.fst, AV.slc c.snd.snd.snd.snd.fst.fst (List.map (mkV true Write_tfs) c.snd.snd.snd.snd.fst.snd), AV.int IntKind.i64 c.snd.snd.snd.snd.snd.fst, AV.bool c.snd.snd.snd.snd.snd.snd.fst, AV.bool c.snd.snd.snd.snd.snd.snd.snd]] []) fun (d2 : Int × Int × Int × List UInt8 × (Bool × List (Int × List UInt8)) × Int × Bool × Bool × Int × Int × Int × List UInt8 × (Bool × List (Int × List UInt8)) × Int × Bool × Bool) =>
              bK (!sameCF (sA d2) (sB d2)) (some (Sum.inr (Ex.ret, { fr := [(4, AV.bool false)], bs := [], df := [] })))
                (bK (bOut (bufCF (bC d1) (bW d1))).snd.snd.snd.snd.snd.snd.snd.snd
                  (bK (!decide ((↑(List.map (mkV true Write_tfs) (bOut (bufCF (bC d1) (bW d1))).snd.snd.snd.snd.fst.snd).length : Int) = IntKind.i64.wrap ((↑(List.map (mkV true Write_tfs) c.snd.snd.snd.snd.fst.snd).length : Int) + 1))) (some (Sum.inr (Ex.ret, { fr := [(4, AV.bool false)], bs := [], df := [] })))
                    (oK (elemAt true Write_tfs (List.map (mkV true Write_tfs) (bOut (bufCF (bC d1) (bW d1))).snd.snd.snd.snd.fst.snd) (↑(List.map (mkV true Write_tfs) c.snd.snd.snd.snd.fst.snd).length : Int)) fun (d3 : Int × List UInt8) =>
                      bK (!(decide (d3.fst = (writeF d0.fst).snd.fst) && (decide (d3.snd = (writeF d0.fst).snd.snd) && true))) (some (Sum.inr (Ex.ret, { fr := [(4, AV.bool false)], bs := [], df := [] })))
                        (oK (viewCS.dec [AV.agg [AV.int IntKind.i64 (bOut (bufCF (bC d1) (bW d1))).fst, AV.int IntKind.i64 (bOut (bufCF (bC d1) (bW d1))).snd.fst, AV.int IntKind.i64 (bOut (bufCF (bC d1) (bW d1))).snd.snd.fst, AV.str (bOut (bufCF (bC d1) (bW d1))).snd.snd.snd.fst, AV.slc (bOut (bufCF (bC d1) (bW d1))).snd.snd.snd.snd.fst.fst (List.map (mkV true Write_tfs) (bOut (bufCF (bC d1) (bW d1))).snd.snd.snd.snd.fst.snd), AV.int IntKind.i64 (bOut (bufCF (bC d1) (bW d1))).snd.snd.snd.snd.snd.fst, AV.bool (bOut (bufCF (bC d1) (bW d1))).snd.snd.snd.snd.snd.snd.fst, AV.bool (bOut (bufCF (bC d1) (bW d1))).snd.snd.snd.snd.snd.snd.snd.fst]] []) fun (d4 : Int × Int × Int × List UInt8 × (Bool × List (Int × List UInt8)) × Int × Bool × Bool) =>
                          oK (viewCS.dec [AV.agg [AV.int IntKind.i64 c.fst, AV.int IntKind.i64 c.snd.fst, AV.int IntKind.i64 c.snd.snd.fst, AV.str c.snd.snd.snd.fst, AV.slc c.snd.snd.snd.snd.fst.fst (List.map (mkV true Write_tfs) c.snd.snd.snd.snd.fst.snd), AV.int IntKind.i64 c.snd.snd.snd.snd.snd.fst, AV.bool c.snd.snd.snd.snd.snd.snd.fst, AV.bool c.snd.snd.snd.snd.snd.snd.snd]] []) fun (d5 : Int × Int × Int × List UInt8 × (Bool × List (Int × List UInt8)) × Int × Bool × Bool) =>
                            oK (putRS.dec [AV.str (allF (cA d5).snd.snd.snd.fst (dOf d5)), AV.agg [AV.int IntKind.i64 (writeF d0.fst).snd.fst, AV.str (writeF d0.fst).snd.snd]] []) fun (d6 : List UInt8 × Int × List UInt8) => bK (!decide (allF (cA d4).snd.snd.snd.fst (dOf d4) = putB d6.fst d6.snd)) (some (Sum.inr (Ex.ret, { fr := [(4, AV.bool false)], bs := [], df := [] }))) (some (Sum.inl { fr := [(5, AV.ptr 80 0 0 0), (6, AV.ptr 400 0 0 0), (7, AV.int IntKind.i64 (IntKind.i64.wrap (i + 1)))], bs := [(80, { v := 0, k := BK.box, fz := false, sz := 0, es := [AV.int IntKind.i64 (bOut (bufCF (bC d1) (bW d1))).fst, AV.int IntKind.i64 (bOut (bufCF (bC d1) (bW d1))).snd.fst, AV.int IntKind.i64 (bOut (bufCF (bC d1) (bW d1))).snd.snd.fst, AV.str (bOut (bufCF (bC d1) (bW d1))).snd.snd.snd.fst, AV.slc (bOut (bufCF (bC d1) (bW d1))).snd.snd.snd.snd.fst.fst (List.map (mkV true Write_tfs) (bOut (bufCF (bC d1) (bW d1))).snd.snd.snd.snd.fst.snd), AV.int IntKind.i64 (bOut (bufCF (bC d1) (bW d1))).snd.snd.snd.snd.snd.fst, AV.bool (bOut (bufCF (bC d1) (bW d1))).snd.snd.snd.snd.snd.snd.fst, AV.bool (bOut (bufCF (bC d1) (bW d1))).snd.snd.snd.snd.snd.snd.snd.fst] }), (400, { v := 0, k := BK.box, fz := false, sz := 0, es := [AV.slc (writeF d0.fst).fst.fst.fst (List.map (mkV false [Lf.fi IntKind.u8]) (writeF d0.fst).fst.fst.snd), AV.int IntKind.i64 (writeF d0.fst).fst.snd] })], df := [] })))))
                  (some (Sum.inl { fr := [(5, AV.ptr 80 0 0 0), (6, AV.ptr 400 0 0 0), (7, AV.int IntKind.i64 (IntKind.i64.wrap (i + 1)))], bs := [(80, { v := 0, k := BK.box, fz := false, sz := 0, es := [AV.int IntKind.i64 (bOut (bufCF (bC d1) (bW d1))).fst, AV.int IntKind.i64 (bOut (bufCF (bC d1) (bW d1))).snd.fst, AV.int IntKind.i64 (bOut (bufCF (bC d1) (bW d1))).snd.snd.fst, AV.str (bOut (bufCF (bC d1) (bW d1))).snd.snd.snd.fst, AV.slc (bOut (bufCF (bC d1) (bW d1))).snd.snd.snd.snd.fst.fst (List.map (mkV true Write_tfs) (bOut (bufCF (bC d1) (bW d1))).snd.snd.snd.snd.fst.snd), AV.int IntKind.i64 (bOut (bufCF (bC d1) (bW d1))).snd.snd.snd.snd.snd.fst, AV.bool (bOut (bufCF (bC d1) (bW d1))).snd.snd.snd.snd.snd.snd.fst, AV.bool (bOut (bufCF (bC d1) (bW d1))).snd.snd.snd.snd.snd.snd.snd.fst] }), (400, { v := 0, k := BK.box, fz := false, sz := 0, es := [AV.slc (writeF d0.fst).fst.fst.fst (List.map (mkV false [Lf.fi IntKind.u8]) (writeF d0.fst).fst.fst.snd), AV.int IntKind.i64 (writeF d0.fst).fst.snd] })], df := [] }))))
            (bK (bOut (bufCF (bC d1) (bW d1))).snd.snd.snd.snd.snd.snd.snd.snd
              (bK (!decide ((↑(List.map (mkV true Write_tfs) (bOut (bufCF (bC d1) (bW d1))).snd.snd.snd.snd.fst.snd).length : Int) = IntKind.i64.wrap ((↑(List.map (mkV true Write_tfs) c.snd.snd.snd.snd.fst.snd).length : Int) + 1))) (some (Sum.inr (Ex.ret, { fr := [(4, AV.bool false)], bs := [], df := [] })))
                (oK (elemAt true Write_tfs (List.map (mkV true Write_tfs) (bOut (bufCF (bC d1) (bW d1))).snd.snd.snd.snd.fst.snd) (↑(List.map (mkV true Write_tfs) c.snd.snd.snd.snd.fst.snd).length : Int)) fun (d7 : Int × List UInt8) =>
                  bK (!(decide (d7.fst = (writeF d0.fst).snd.fst) && (decide (d7.snd = (writeF d0.fst).snd.snd) && true))) (some (Sum.inr (Ex.ret, { fr := [(4, AV.bool false)], bs := [], df := [] })))
                    (oK (viewCS.dec [AV.agg [AV.int IntKind.i64 (bOut (bufCF (bC d1) (bW d1))).fst, AV.int IntKind.i64 (bOut (bufCF (bC d1) (bW d1))).snd.fst, AV.int IntKind.i64 (bOut (bufCF (bC d1) (bW d1))).snd.snd.fst, AV.str (bOut (bufCF (bC d1) (bW d1))).snd.snd.snd.fst, AV.slc (bOut (bufCF (bC d1) (bW d1))).snd.snd.snd.snd.fst.fst (List.map (mkV true Write_tfs) (bOut (bufCF (bC d1) (bW d1))).snd.snd.snd.snd.fst.snd), AV.int IntKind.i64 (bOut (bufCF (bC d1) (bW d1))).snd.snd.snd.snd.snd.fst, AV.bool (bOut (bufCF (bC d1) (bW d1))).snd.snd.snd.snd.snd.snd.fst, AV.bool (bOut (bufCF (bC d1) (bW d1))).snd.snd.snd.snd.snd.snd.snd.fst]] []) fun (d8 : Int × Int × Int × List UInt8 × (Bool × List (Int × List UInt8)) × Int × Bool × Bool) =>
                      oK (viewCS.dec [AV.agg [AV.int IntKind.i64 c.fst, AV.int IntKind.i64 c.snd.fst, AV.int IntKind.i64 c.snd.snd.fst, AV.str c.snd.snd.snd.fst, AV.slc c.snd.snd.snd.snd.fst.fst (List.map (mkV true Write_tfs) c.snd.snd.snd.snd.fst.snd), AV.int IntKind.i64 c.snd.snd.snd.snd.snd.fst, AV.bool c.snd.snd.snd.snd.snd.snd.fst, AV.bool c.snd.snd.snd.snd.snd.snd.snd]] []) fun (d9 : Int × Int × Int × List UInt8 × (Bool × List (Int × List UInt8)) × Int × Bool × Bool) =>
                        oK (putRS.dec [AV.str (allF (cA d9).snd.snd.snd.fst (dOf d9)), AV.agg [AV.int IntKind.i64 (writeF d0.fst).snd.fst, AV.str (writeF d0.fst).snd.snd]] []) fun (d10 : List UInt8 × Int × List UInt8) => bK (!decide (allF (cA d8).snd.snd.snd.fst (dOf d8) = putB d10.fst d10.snd)) (some (Sum.inr (Ex.ret, { fr := [(4, AV.bool false)], bs := [], df := [] }))) (some (Sum.inl { fr := [(5, AV.ptr 80 0 0 0), (6, AV.ptr 400 0 0 0), (7, AV.int IntKind.i64 (IntKind.i64.wrap (i + 1)))], bs := [(80, { v := 0, k := BK.box, fz := false, sz := 0, es := [AV.int IntKind.i64 (bOut (bufCF (bC d1) (bW d1))).fst, AV.int IntKind.i64 (bOut (bufCF (bC d1) (bW d1))).snd.fst, AV.int IntKind.i64 (bOut (bufCF (bC d1) (bW d1))).snd.snd.fst, AV.str (bOut (bufCF (bC d1) (bW d1))).snd.snd.snd.fst, AV.slc (bOut (bufCF (bC d1) (bW d1))).snd.snd.snd.snd.fst.fst (List.map (mkV true Write_tfs) (bOut (bufCF (bC d1) (bW d1))).snd.snd.snd.snd.fst.snd), AV.int IntKind.i64 (bOut (bufCF (bC d1) (bW d1))).snd.snd.snd.snd.snd.fst, AV.bool (bOut (bufCF (bC d1) (bW d1))).snd.snd.snd.snd.snd.snd.fst, AV.bool (bOut (bufCF (bC d1) (bW d1))).snd.snd.snd.snd.snd.snd.snd.fst] }), (400, { v := 0, k := BK.box, fz := false, sz := 0, es := [AV.slc (writeF d0.fst).fst.fst.fst (List.map (mkV false [Lf.fi IntKind.u8]) (writeF d0.fst).fst.fst.snd), AV.int IntKind.i64 (writeF d0.fst).fst.snd] })], df := [] })))))
              (some (Sum.inl { fr := [(5, AV.ptr 80 0 0 0), (6, AV.ptr 400 0 0 0), (7, AV.int IntKind.i64 (IntKind.i64.wrap (i + 1)))], bs := [(80, { v := 0, k := BK.box, fz := false, sz := 0, es := [AV.int IntKind.i64 (bOut (bufCF (bC d1) (bW d1))).fst, AV.int IntKind.i64 (bOut (bufCF (bC d1) (bW d1))).snd.fst, AV.int IntKind.i64 (bOut (bufCF (bC d1) (bW d1))).snd.snd.fst, AV.str (bOut (bufCF (bC d1) (bW d1))).snd.snd.snd.fst, AV.slc (bOut (bufCF (bC d1) (bW d1))).snd.snd.snd.snd.fst.fst (List.map (mkV true Write_tfs) (bOut (bufCF (bC d1) (bW d1))).snd.snd.snd.snd.fst.snd), AV.int IntKind.i64 (bOut (bufCF (bC d1) (bW d1))).snd.snd.snd.snd.snd.fst, AV.bool (bOut (bufCF (bC d1) (bW d1))).snd.snd.snd.snd.snd.snd.fst, AV.bool (bOut (bufCF (bC d1) (bW d1))).snd.snd.snd.snd.snd.snd.snd.fst] }), (400, { v := 0, k := BK.box, fz := false, sz := 0, es := [AV.slc (writeF d0.fst).fst.fst.fst (List.map (mkV false [Lf.fi IntKind.u8]) (writeF d0.fst).fst.fst.snd), AV.int IntKind.i64 (writeF d0.fst).fst.snd] })], df := [] })))))
        (bK (!(bOut (bufCF (bC d1) (bW d1))).snd.snd.snd.snd.snd.snd.snd.snd == false) (some (Sum.inr (Ex.ret, { fr := [(4, AV.bool false)], bs := [], df := [] })))
          (bK (!(bOut (bufCF (bC d1) (bW d1))).snd.snd.snd.snd.snd.snd.snd.snd)
            (oK (sameCS.dec [AV.agg [AV.int IntKind.i64 (bOut (bufCF (bC d1) (bW d1))).fst, AV.int IntKind.i64 (bOut (bufCF (bC d1) (bW d1))).snd.fst, AV.int IntKind.i64 (bOut (bufCF (bC d1) (bW d1))).snd.snd.fst, AV.str (bOut (bufCF (bC d1) (bW d1))).snd.snd.snd.fst, AV.slc (bOut (bufCF (bC d1) (bW d1))).snd.snd.snd.snd.fst.fst (List.map (mkV true Write_tfs) (bOut (bufCF (bC d1) (bW d1))).snd.snd.snd.snd.fst.snd), AV.int IntKind.i64 (bOut (bufCF (bC d1) (bW d1))).snd.snd.snd.snd.snd.fst, AV.bool (bOut (bufCF (bC d1) (bW d1))).snd.snd.snd.snd.snd.snd.fst, AV.bool (bOut (bufCF (bC d1) (bW d1))).snd.snd.snd.snd.snd.snd.snd.fst], AV.agg [AV.int IntKind.i64 c.fst, AV.int IntKind.i64 c.snd.fst, AV.int IntKind.i64 c.snd.snd.fst, AV.str c.snd.snd.snd.fst, AV.slc c.snd.snd.snd.snd.fst.fst (List.map (mkV true Write_tfs) c.snd.snd.snd.snd.fst.snd), AV.int IntKind.i64 c.snd.snd.snd.snd.snd.fst, AV.bool c.snd.snd.snd.snd.snd.snd.fst, AV.bool c.snd.snd.snd.snd.snd.snd.snd]] []) fun (d11 : Int × Int × Int × List UInt8 × (Bool × List (Int × List UInt8)) × Int × Bool × Bool × Int × Int × Int × List UInt8 × (Bool × List (Int × List UInt8)) × Int × Bool × Bool) =>
              bK (!sameCF (sA d11) (sB d11)) (some (Sum.inr (Ex.ret, { fr := [(4, AV.bool false)], bs := [], df := [] })))
                (bK (bOut (bufCF (bC d1) (bW d1))).snd.snd.snd.snd.snd.snd.snd.snd
                  (bK (!decide ((↑(List.map (mkV true Write_tfs) (bOut (bufCF (bC d1) (bW d1))).snd.snd.snd.snd.fst.snd).length : Int) = IntKind.i64.wrap ((↑(List.map (mkV true Write_tfs) c.snd.snd.snd.snd.fst.snd).length : Int) + 1))) (some (Sum.inr (Ex.ret, { fr := [(4, AV.bool false)], bs := [], df := [] })))
                    (oK (elemAt true Write_tfs (List.map (mkV true Write_tfs) (bOut (bufCF (bC d1) (bW d1))).snd.snd.snd.snd.fst.snd) (↑(List.map (mkV true Write_tfs) c.snd.snd.snd.snd.fst.snd).length : Int)) fun (d12 : Int × List UInt8) =>
                      bK (!(decide (d12.fst = (writeF d0.fst).snd.fst) && (decide (d12.snd = (writeF d0.fst).snd.snd) && true))) (some (Sum.inr (Ex.ret, { fr := [(4, AV.bool false)], bs := [], df := [] })))
                        (oK (viewCS.dec [AV.agg [AV.int IntKind.i64 (bOut (bufCF (bC d1) (bW d1))).fst, AV.int IntKind.i64 (bOut (bufCF (bC d1) (bW d1))).snd.fst, AV.int IntKind.i64 (bOut (bufCF (bC d1) (bW d1))).snd.snd.fst, AV.str (bOut (bufCF (bC d1) (bW d1))).snd.snd.snd.fst, AV.slc (bOut (bufCF (bC d1) (bW d1))).snd.snd.snd.snd.fst.fst (List.map (mkV true Write_tfs) (bOut (bufCF (bC d1) (bW d1))).snd.snd.snd.snd.fst.snd), AV.int IntKind.i64 (bOut (bufCF (bC d1) (bW d1))).snd.snd.snd.snd.snd.fst, AV.bool (bOut (bufCF (bC d1) (bW d1))).snd.snd.snd.snd.snd.snd.fst, AV.bool (bOut (bufCF (bC d1) (bW d1))).snd.snd.snd.snd.snd.snd.snd.fst]] []) fun (d13 : Int × Int × Int × List UInt8 × (Bool × List (Int × List UInt8)) × Int × Bool × Bool) =>
                          oK (viewCS.dec [AV.agg [AV.int IntKind.i64 c.fst, AV.int IntKind.i64 c.snd.fst, AV.int IntKind.i64 c.snd.snd.fst, AV.str c.snd.snd.snd.fst, AV.slc c.snd.snd.snd.snd.fst.fst (List.map (mkV true Write_tfs) c.snd.snd.snd.snd.fst.snd), AV.int IntKind.i64 c.snd.snd.snd.snd.snd.fst, AV.bool c.snd.snd.snd.snd.snd.snd.fst, AV.bool c.snd.snd.snd.snd.snd.snd.snd]] []) fun (d14 : Int × Int × Int × List UInt8 × (Bool × List (Int × List UInt8)) × Int × Bool × Bool) =>
                            oK (putRS.dec [AV.str (allF (cA d14).snd.snd.snd.fst (dOf d14)), AV.agg [AV.int IntKind.i64 (writeF d0.fst).snd.fst, AV.str (writeF d0.fst).snd.snd]] []) fun (d15 : List UInt8 × Int × List UInt8) => bK (!decide (allF (cA d13).snd.snd.snd.fst (dOf d13) = putB d15.fst d15.snd)) (some (Sum.inr (Ex.ret, { fr := [(4, AV.bool false)], bs := [], df := [] }))) (some (Sum.inl { fr := [(5, AV.ptr 80 0 0 0), (6, AV.ptr 400 0 0 0), (7, AV.int IntKind.i64 (IntKind.i64.wrap (i + 1)))], bs := [(80, { v := 0, k := BK.box, fz := false, sz := 0, es := [AV.int IntKind.i64 (bOut (bufCF (bC d1) (bW d1))).fst, AV.int IntKind.i64 (bOut (bufCF (bC d1) (bW d1))).snd.fst, AV.int IntKind.i64 (bOut (bufCF (bC d1) (bW d1))).snd.snd.fst, AV.str (bOut (bufCF (bC d1) (bW d1))).snd.snd.snd.fst, AV.slc (bOut (bufCF (bC d1) (bW d1))).snd.snd.snd.snd.fst.fst (List.map (mkV true Write_tfs) (bOut (bufCF (bC d1) (bW d1))).snd.snd.snd.snd.fst.snd), AV.int IntKind.i64 (bOut (bufCF (bC d1) (bW d1))).snd.snd.snd.snd.snd.fst, AV.bool (bOut (bufCF (bC d1) (bW d1))).snd.snd.snd.snd.snd.snd.fst, AV.bool (bOut (bufCF (bC d1) (bW d1))).snd.snd.snd.snd.snd.snd.snd.fst] }), (400, { v := 0, k := BK.box, fz := false, sz := 0, es := [AV.slc (writeF d0.fst).fst.fst.fst (List.map (mkV false [Lf.fi IntKind.u8]) (writeF d0.fst).fst.fst.snd), AV.int IntKind.i64 (writeF d0.fst).fst.snd] })], df := [] })))))
                  (some (Sum.inl { fr := [(5, AV.ptr 80 0 0 0), (6, AV.ptr 400 0 0 0), (7, AV.int IntKind.i64 (IntKind.i64.wrap (i + 1)))], bs := [(80, { v := 0, k := BK.box, fz := false, sz := 0, es := [AV.int IntKind.i64 (bOut (bufCF (bC d1) (bW d1))).fst, AV.int IntKind.i64 (bOut (bufCF (bC d1) (bW d1))).snd.fst, AV.int IntKind.i64 (bOut (bufCF (bC d1) (bW d1))).snd.snd.fst, AV.str (bOut (bufCF (bC d1) (bW d1))).snd.snd.snd.fst, AV.slc (bOut (bufCF (bC d1) (bW d1))).snd.snd.snd.snd.fst.fst (List.map (mkV true Write_tfs) (bOut (bufCF (bC d1) (bW d1))).snd.snd.snd.snd.fst.snd), AV.int IntKind.i64 (bOut (bufCF (bC d1) (bW d1))).snd.snd.snd.snd.snd.fst, AV.bool (bOut (bufCF (bC d1) (bW d1))).snd.snd.snd.snd.snd.snd.fst, AV.bool (bOut (bufCF (bC d1) (bW d1))).snd.snd.snd.snd.snd.snd.snd.fst] }), (400, { v := 0, k := BK.box, fz := false, sz := 0, es := [AV.slc (writeF d0.fst).fst.fst.fst (List.map (mkV false [Lf.fi IntKind.u8]) (writeF d0.fst).fst.fst.snd), AV.int IntKind.i64 (writeF d0.fst).fst.snd] })], df := [] }))))
            (bK (bOut (bufCF (bC d1) (bW d1))).snd.snd.snd.snd.snd.snd.snd.snd
              (bK (!decide ((↑(List.map (mkV true Write_tfs) (bOut (bufCF (bC d1) (bW d1))).snd.snd.snd.snd.fst.snd).length : Int) = IntKind.i64.wrap ((↑(List.map (mkV true Write_tfs) c.snd.snd.snd.snd.fst.snd).length : Int) + 1))) (some (Sum.inr (Ex.ret, { fr := [(4, AV.bool false)], bs := [], df := [] })))
                (oK (elemAt true Write_tfs (List.map (mkV true Write_tfs) (bOut (bufCF (bC d1) (bW d1))).snd.snd.snd.snd.fst.snd) (↑(List.map (mkV true Write_tfs) c.snd.snd.snd.snd.fst.snd).length : Int)) fun (d16 : Int × List UInt8) =>
                  bK (!(decide (d16.fst = (writeF d0.fst).snd.fst) && (decide (d16.snd = (writeF d0.fst).snd.snd) && true))) (some (Sum.inr (Ex.ret, { fr := [(4, AV.bool false)], bs := [], df := [] })))
                    (oK (viewCS.dec [AV.agg [AV.int IntKind.i64 (bOut (bufCF (bC d1) (bW d1))).fst, AV.int IntKind.i64 (bOut (bufCF (bC d1) (bW d1))).snd.fst, AV.int IntKind.i64 (bOut (bufCF (bC d1) (bW d1))).snd.snd.fst, AV.str (bOut (bufCF (bC d1) (bW d1))).snd.snd.snd.fst, AV.slc (bOut (bufCF (bC d1) (bW d1))).snd.snd.snd.snd.fst.fst (List.map (mkV true Write_tfs) (bOut (bufCF (bC d1) (bW d1))).snd.snd.snd.snd.fst.snd), AV.int IntKind.i64 (bOut (bufCF (bC d1) (bW d1))).snd.snd.snd.snd.snd.fst, AV.bool (bOut (bufCF (bC d1) (bW d1))).snd.snd.snd.snd.snd.snd.fst, AV.bool (bOut (bufCF (bC d1) (bW d1))).snd.snd.snd.snd.snd.snd.snd.fst]] []) fun (d17 : Int × Int × Int × List UInt8 × (Bool × List (Int × List UInt8)) × Int × Bool × Bool) =>
                      oK (viewCS.dec [AV.agg [AV.int IntKind.i64 c.fst, AV.int IntKind.i64 c.snd.fst, AV.int IntKind.i64 c.snd.snd.fst, AV.str c.snd.snd.snd.fst, AV.slc c.snd.snd.snd.snd.fst.fst (List.map (mkV true Write_tfs) c.snd.snd.snd.snd.fst.snd), AV.int IntKind.i64 c.snd.snd.snd.snd.snd.fst, AV.bool c.snd.snd.snd.snd.snd.snd.fst, AV.bool c.snd.snd.snd.snd.snd.snd.snd]] []) fun (d18 : Int × Int × Int × List UInt8 × (Bool × List (Int × List UInt8)) × Int × Bool × Bool) =>
                        oK (putRS.dec [AV.str (allF (cA d18).snd.snd.snd.fst (dOf d18)), AV.agg [AV.int IntKind.i64 (writeF d0.fst).snd.fst, AV.str (writeF d0.fst).snd.snd]] []) fun (d19 : List UInt8 × Int × List UInt8) => bK (!decide (allF (cA d17).snd.snd.snd.fst (dOf d17) = putB d19.fst d19.snd)) (some (Sum.inr (Ex.ret, { fr := [(4, AV.bool false)], bs := [], df := [] }))) (some (Sum.inl { fr := [(5, AV.ptr 80 0 0 0), (6, AV.ptr 400 0 0 0), (7, AV.int IntKind.i64 (IntKind.i64.wrap (i + 1)))], bs := [(80, { v := 0, k := BK.box, fz := false, sz := 0, es := [AV.int IntKind.i64 (bOut (bufCF (bC d1) (bW d1))).fst, AV.int IntKind.i64 (bOut (bufCF (bC d1) (bW d1))).snd.fst, AV.int IntKind.i64 (bOut (bufCF (bC d1) (bW d1))).snd.snd.fst, AV.str (bOut (bufCF (bC d1) (bW d1))).snd.snd.snd.fst, AV.slc (bOut (bufCF (bC d1) (bW d1))).snd.snd.snd.snd.fst.fst (List.map (mkV true Write_tfs) (bOut (bufCF (bC d1) (bW d1))).snd.snd.snd.snd.fst.snd), AV.int IntKind.i64 (bOut (bufCF (bC d1) (bW d1))).snd.snd.snd.snd.snd.fst, AV.bool (bOut (bufCF (bC d1) (bW d1))).snd.snd.snd.snd.snd.snd.fst, AV.bool (bOut (bufCF (bC d1) (bW d1))).snd.snd.snd.snd.snd.snd.snd.fst] }), (400, { v := 0, k := BK.box, fz := false, sz := 0, es := [AV.slc (writeF d0.fst).fst.fst.fst (List.map (mkV false [Lf.fi IntKind.u8]) (writeF d0.fst).fst.fst.snd), AV.int IntKind.i64 (writeF d0.fst).fst.snd] })], df := [] })))))
              (some (Sum.inl { fr := [(5, AV.ptr 80 0 0 0), (6, AV.ptr 400 0 0 0), (7, AV.int IntKind.i64 (IntKind.i64.wrap (i + 1)))], bs := [(80, { v := 0, k := BK.box, fz := false, sz := 0, es := [AV.int IntKind.i64 (bOut (bufCF (bC d1) (bW d1))).fst, AV.int IntKind.i64 (bOut (bufCF (bC d1) (bW d1))).snd.fst, AV.int IntKind.i64 (bOut (bufCF (bC d1) (bW d1))).snd.snd.fst, AV.str (bOut (bufCF (bC d1) (bW d1))).snd.snd.snd.fst, AV.slc (bOut (bufCF (bC d1) (bW d1))).snd.snd.snd.snd.fst.fst (List.map (mkV true Write_tfs) (bOut (bufCF (bC d1) (bW d1))).snd.snd.snd.snd.fst.snd), AV.int IntKind.i64 (bOut (bufCF (bC d1) (bW d1))).snd.snd.snd.snd.snd.fst, AV.bool (bOut (bufCF (bC d1) (bW d1))).snd.snd.snd.snd.snd.snd.fst, AV.bool (bOut (bufCF (bC d1) (bW d1))).snd.snd.snd.snd.snd.snd.snd.fst] }), (400, { v := 0, k := BK.box, fz := false, sz := 0, es := [AV.slc (writeF d0.fst).fst.fst.fst (List.map (mkV false [Lf.fi IntKind.u8]) (writeF d0.fst).fst.fst.snd), AV.int IntKind.i64 (writeF d0.fst).fst.snd] })], df := [] }))))))
  (some (Sum.inr (Ex.exit 0, { fr := [], bs := [], df := [] })))
theorem rm_s_w (x : Bool) (l : List Int) (n : Int) (c : Cache_T) (i : Int) : rm_s x l n c i = rm_s_r x l n c i := by kernel_rfl

theorem writeF_may {b : Picks_T} (h : pkOk b) : mayB (writeF b).2 := by
  have h1 := numF_lt (m := 10) h (by omega)
  have h2 := numF_lt (m := 6) (numF_ok (m := 10) h) (by omega)
  unfold writeF mayB
  simp only
  generalize numF b 10 = x at h1 h2 ⊢
  generalize hy : (numF x.1 6).2 = y at h2 ⊢
  obtain ⟨k, rfl⟩ := Int.eq_ofNat_of_zero_le h2.1
  have hk : k < 6 := by omega
  rw [Int.toNat_natCast]
  match k, hk with
  | 0, _ => exact ⟨h1.1, by decide, by decide, by show x.2 ≤ 24 - ((1 : Nat) : Int); omega⟩
  | 1, _ => exact ⟨h1.1, by decide, by decide, by show x.2 ≤ 24 - ((2 : Nat) : Int); omega⟩
  | 2, _ => exact ⟨h1.1, by decide, by decide, by show x.2 ≤ 24 - ((5 : Nat) : Int); omega⟩
  | 3, _ => exact ⟨h1.1, by decide, by decide, by show x.2 ≤ 24 - ((1 : Nat) : Int); omega⟩
  | 4, _ => exact ⟨h1.1, by decide, by decide, by show x.2 ≤ 24 - ((5 : Nat) : Int); omega⟩
  | 5, _ => exact ⟨h1.1, by decide, by decide, by show x.2 ≤ 24 - ((14 : Nat) : Int); omega⟩
abbrev bufD (c : Cache_T) (w : Write_T) : Tu bufX_fs := (c.1, c.2.1, c.2.2.1, c.2.2.2.1, c.2.2.2.2.1, c.2.2.2.2.2.1, c.2.2.2.2.2.2.1, c.2.2.2.2.2.2.2, w)
theorem oK_buf {R : Type} (c : Cache_T) (w : Write_T) (h : (dOf c).length ≤ 1000) {k : Tu buf_fs → Option R} {Q : Option R → Prop} (hz : Q (k (bufD c w))) : Q (oK (bufS.dec (bufS.args (bufD c w)) []) k) := oK_fsq bufS (bufD c w) h hz
theorem oK_view {R : Type} (c : Cache_T) (h : cOk c) {k : Tu viewC_fs → Option R} {Q : Option R → Prop} (hz : Q (k c)) : Q (oK (viewCS.dec (viewCS.args c) []) k) := oK_fsq viewCS c ⟨h.2, by show c.2.2.2.2.1.2.length ≤ 1000; have := h.1; omega⟩ hz
def rmGood (i : Int) (r : Option (St ⊕ (Ex × St))) : Prop := ∃ y : Picks_T × Cache_T, (pkOk y.1 ∧ cOk y.2) ∧ r = some (.inl (rmHd y.1 y.2 (i + 1)))
theorem rm_step (x : Bool) (l : List Int) (n : Int) (c : Cache_T) (i : Int) (hi : 0 ≤ i ∧ i < 8) (h : pkOk ((x, l), n)) (hc : cOk c) : rmGood i (rm_s_r x l n c i) := by
  unfold rm_s_r
  refine bK_tq (decide_eq_true hi.2) ?_
  refine oK_msq writeS ((x, l), n) () h ?_
  have hw := writeF_may h
  have hp := writeF_ok h
  generalize writeF ((x, l), n) = z at hw hp ⊢
  obtain ⟨b, w⟩ := z
  simp only at hw hp
  have e1 : IntKind.i64.wrap (i + 1) = i + 1 := w64 (by omega) (by omega)
  rw [e1]
  refine oK_buf c w (by have := hc.1; show c.2.2.2.2.1.2.length ≤ 1000; omega) ?_
  by_cases hb : bufOk c w
  · have hy : bufCF (bC (bufD c w)) (bW (bufD c w)) = (addW c w, true) := by
      show bufCF c w = _
      unfold bufCF
      rw [if_pos hb]
    rw [hy]
    obtain ⟨hb1, hb2, hb3⟩ := hb
    have hc' : cOk (addW c w) := ⟨by show (c.2.2.2.2.1.2 ++ [w]).length ≤ 5; have : c.2.2.2.2.1.2.length ≤ 4 := hb1; simp; omega, hc.2⟩
    have hlen : ((bOut (addW c w, true)).2.2.2.2.1.2).length = c.2.2.2.2.1.2.length + 1 := by show (c.2.2.2.2.1.2 ++ [w]).length = _; simp
    refine bK_tq (decide_eq_true hb2) ?_
    refine bK_fq ?_ (bK_fq rfl (bK_tq rfl (bK_fq ?_ ?_)))
    · rw [List.length_map]
      have : c.2.2.2.2.1.2.length ≤ 4 := hb1
      rw [decide_eq_true (show (c.2.2.2.2.1.2.length : Int) < 5 by omega)]
      rfl
    · have : c.2.2.2.2.1.2.length ≤ 4 := hb1
      rw [List.length_map, List.length_map, hlen, w64 (by omega) (by omega)]
      simp
    · refine oK_atq (0, []) (by omega) ?_ ?_
      · rw [hlen, List.length_map]; omega
      have hg : ((bOut (addW c w, true)).2.2.2.2.1.2).getD ((((List.map (mkV true Write_tfs) c.2.2.2.2.1.2).length : Nat) : Int)).toNat (0, []) = w := by
        show (c.2.2.2.2.1.2 ++ [w]).getD _ _ = w
        rw [List.length_map, Int.toNat_natCast, List.getD_eq_getElem?_getD, List.getElem?_append_right (Nat.le_refl _)]
        simp
      rw [hg]
      refine bK_fq (by simp) ?_
      refine oK_view (addW c w) hc' ?_
      refine oK_view c hc ?_
      have hA : (allF c.2.2.2.1 c.2.2.2.2.1.2).length ≤ 1000 := Nat.le_trans (allB_le hc.2 _) (by decide)
      refine oK_fsq putRS (allF c.2.2.2.1 c.2.2.2.2.1.2, w) hA ?_
      refine bK_fq ?_ ⟨(b, addW c w), ⟨hp, hc'⟩, rfl⟩
      have : allF c.2.2.2.1 (c.2.2.2.2.1.2 ++ [w]) = putB (allF c.2.2.2.1 c.2.2.2.2.1.2) w := by
        show allB _ _ = putB (allB _ _) w
        unfold allB
        rw [List.foldl_append]
        rfl
      exact congrArg (!·) (decide_eq_true this)
  · have hy : bufCF (bC (bufD c w)) (bW (bufD c w)) = (twinF c, false) := by
      show bufCF c w = _
      unfold bufCF
      rw [if_neg hb]
    rw [hy]
    have hc' : cOk (twinF c) := hc
    have hS : sameCF (twinF c) c = true := same_of rfl
    have hl1 : (dOf (twinF c)).length ≤ 100000 := by have := hc.1; show c.2.2.2.2.1.2.length ≤ 100000; omega
    refine bK_iq (fun c2 => ?_) (fun c2 => ?_)
    · refine bK_fq ?_ (bK_tq rfl (oK_sam (twinF c) c hl1 (bK_fq (congrArg (!·) hS) (bK_fq rfl ⟨(b, twinF c), ⟨hp, hc'⟩, rfl⟩))))
      rw [List.length_map]
      have : ¬ c.2.2.2.2.1.2.length ≤ 4 := fun hh => hb ⟨hh, c2, hw⟩
      rw [decide_eq_false (show ¬ (c.2.2.2.2.1.2.length : Int) < 5 by omega)]
      rfl
    · exact bK_fq rfl (bK_tq rfl (oK_sam (twinF c) c hl1 (bK_fq (congrArg (!·) hS) (bK_fq rfl ⟨(b, twinF c), ⟨hp, hc'⟩, rfl⟩))))
def rmEnd : St := { fr := [], bs := [], df := [] }
theorem loops7 : (loopsOf 0 (codeOf Try.prog 7)).map (·.1) = [0] := by kernel_rfl
theorem one7 : OneLoops Try.prog 7 := by unfold OneLoops; rw [loops7]; decide
theorem at7 : At 0 (codeOf Try.prog 7) 0 (.loop (bodyAt Try.prog 7 0)) := at_body one7 (by rw [loops7]; decide)
theorem rm_run : ∀ (k i : Nat), i + k = 8 → ∀ (b : Picks_T) (c : Cache_T), pkOk b → cOk c → ∀ m, k < m → Runs' Try.prog cfg PKe9 7 0 m (rmHd b c i) (.exit 0, rmEnd)
  | 0, i, hi, ((x, l), n), c, hb, hc, m + 1, hm => by
    refine Runs'.done (lp := LP0) LPok.none at7 ((rm_s_w x l n c i).trans ?_)
    unfold rm_s_r
    rw [bK_neg (by exact decide_eq_false (by omega))]
    rfl
  | k + 1, i, hi, ((x, l), n), c, hb, hc, m + 1, hm => by
    obtain ⟨y, ⟨h1, h2⟩, he⟩ := rm_step x l n c i ⟨by omega, by omega⟩ hb hc
    refine Runs'.step (lp := LP0) LPok.none at7 ((rm_s_w x l n c i).trans he) ?_
    exact rm_run k (i + 1) (by omega) y.1 y.2 h1 h2 m (by omega)
abbrev RmD : Type := Picks_T × Cache_T
def rmH (d : RmD) : St := rmHd d.1 d.2 0
noncomputable def rmL : LP := LP.of (D := RmD) rmH (fun d => pkOk d.1 ∧ cOk d.2) fun _ => .leaf (.exit 0, rmEnd)
noncomputable def LPr7 : LPs := LPs.add LP0 7 0 rmL
theorem LPr7_ok : LPok Try.prog cfg PKe9 LPr7 7 := LPok.addH LPok.none one7 fun d h => rm_run 8 0 rfl d.1 d.2 h.1 h.2 rounds (by simp only [rounds]; omega)
theorem rmH_inj (d d' : RmD) (h : rmH d = rmH d') : d = d' := by
  obtain ⟨b, c⟩ := d
  obtain ⟨b', c'⟩ := d'
  simp only [rmH, rmHd, boxB, St.mk.injEq, List.cons.injEq, Prod.mk.injEq, Blk.mk.injEq, and_true, true_and] at h
  obtain ⟨h1, h2⟩ := h
  rw [mk_inj (fs := Cache_tfs) rfl h1, mk_inj (fs := Picks_tfs) rfl h2]
abbrev cacheRoom_id : Nat := 7
abbrev cacheRoom_sh : Shp := [none, none]
abbrev cacheRoom_fs : List Lf := [.fl false [.fi .u8], .fl false [.fi .u8]]
abbrev cacheRoom_rsh : Shp := [none]
abbrev cacheRoom_rfs : List Lf := [.fb]
noncomputable def cacheRoom_r (picks_x : Bool) (picks : List Int) (more_x : Bool) (more : List Int) : Option Ret :=
  oK (begunS.dec [] []) fun (d0 : PUnit) =>
  bK (decide (40 < (↑(List.map (mkV false [Lf.fi IntKind.u8]) picks).length : Int))) (some { pan := false, res := AV.bool true, out := [], new := [] })
    (bK (decide (16 < (↑(List.map (mkV false [Lf.fi IntKind.u8]) more).length : Int))) (some { pan := false, res := AV.bool true, out := [], new := [] }) (oK (cachePS.dec [AV.ptr 1000000 0 0 0] [{ v := 0, k := BK.box, fz := false, sz := 0, es := [AV.slc picks_x (List.map (mkV false [Lf.fi IntKind.u8]) picks), AV.int IntKind.i64 0] }]) fun (d1 : ((Bool × List Int) × Int) × PUnit) => oK (rmL.dec { fr := [(5, AV.ptr 80 0 0 0), (6, AV.ptr 400 0 0 0), (7, AV.int IntKind.i64 0)], bs := [(80, { v := 0, k := BK.box, fz := false, sz := 0, es := [AV.int IntKind.i64 (cacheF d1.fst).snd.fst, AV.int IntKind.i64 (cacheF d1.fst).snd.snd.fst, AV.int IntKind.i64 (cacheF d1.fst).snd.snd.snd.fst, AV.str (cacheF d1.fst).snd.snd.snd.snd.fst, AV.slc (cacheF d1.fst).snd.snd.snd.snd.snd.fst.fst (List.map (mkV true Write_tfs) (cacheF d1.fst).snd.snd.snd.snd.snd.fst.snd), AV.int IntKind.i64 (cacheF d1.fst).snd.snd.snd.snd.snd.snd.fst, AV.bool (cacheF d1.fst).snd.snd.snd.snd.snd.snd.snd.fst, AV.bool (cacheF d1.fst).snd.snd.snd.snd.snd.snd.snd.snd] }), (400, { v := 0, k := BK.box, fz := false, sz := 0, es := [AV.slc more_x (List.map (mkV false [Lf.fi IntKind.u8]) more), AV.int IntKind.i64 0] })], df := [] }) fun (d2 : ((Bool × List Int) × Int) × Int × Int × Int × List UInt8 × (Bool × List (Int × List UInt8)) × Int × Bool × Bool) => some { pan := false, res := AV.bool true, out := [], new := [] }))
theorem cacheRoom_w (picks_x : Bool) (picks : List Int) (more_x : Bool) (more : List Int) : unitQ Try.prog cfg PKe9 LPr7 true 7 (groupA cacheRoom_sh (Tu.mk cacheRoom_fs ((picks_x, picks), (more_x, more)))) [] = cacheRoom_r picks_x picks more_x more := by kernel_rfl

theorem wf8 {l : List Int} (h : ∀ d ∈ l, Tu.wf [.fi .u8] d) : ∀ v ∈ l, 0 ≤ v ∧ v < 256 := fun v hv => by
  have : (0 : Int) ≤ v ∧ v ≤ 255 := h v hv
  omega
theorem cacheRoom_yes (picks_x : Bool) (picks : List Int) (more_x : Bool) (more : List Int) (h : Tu.wf cacheRoom_fs ((picks_x, picks), (more_x, more))) : Yes (cacheRoom_r picks_x picks more_x more) := by
  have h8 := wf8 h.1.2
  have h9 := wf8 h.2.2
  unfold cacheRoom_r
  refine oK_fsq begunS () trivial ?_
  refine bK_iq (fun _ => yes_leaf) (fun c1 => bK_iq (fun _ => yes_leaf) (fun c2 => ?_))
  have hlen : picks.length ≤ 40 := by simp only [List.length_map] at c1; omega
  have hlen2 : more.length ≤ 16 := by simp only [List.length_map] at c2; omega
  have hp : pkOk ((picks_x, picks), 0) := ⟨by simp, by simp, by show picks.length ≤ 2 ^ 62; omega, h8⟩
  have hp2 : pkOk ((more_x, more), 0) := ⟨by simp, by simp, by show more.length ≤ 2 ^ 62; omega, h9⟩
  refine oK_msq cachePS ((picks_x, picks), 0) () hp ?_
  have hc := (cacheF_ok hp).2
  simp only
  generalize (cacheF ((picks_x, picks), 0)).2 = c at hc ⊢
  exact oK_lpq rmH_inj (((more_x, more), 0), c) ⟨hp2, hc⟩ yes_leaf

end Go.Proofs.Ytlhnpfpdjlcakaa
