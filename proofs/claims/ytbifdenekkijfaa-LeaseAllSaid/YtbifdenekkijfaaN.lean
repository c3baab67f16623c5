/- A part of the proof: contracts of functions. -/
import Derived.Test.YtbifdenekkijfaaM
import Derived.Test.YtbifdenekkijfaaAbAny

set_option linter.unusedVariables false
set_option linter.unusedSimpArgs false
set_option maxRecDepth 100000
namespace Go.Proofs.Ytbifdenekkijfaa
open Go Go.Ab
noncomputable def N1 : PKs := M3.add 23 pruneS.pk
noncomputable def N2 : PKs := N1.add 17 clashS.pk
noncomputable def N3 : PKs := N2.add 16 saS.pk
noncomputable def N4 : PKs := N3.add 14 dropS.pk
noncomputable def N5 : PKs := N4.add 13 slS.pk
theorem N1_ok : PKsOk Try.prog N1 := PKsOk.anyF M3_ok 23 pruneS pruneO
theorem N2_ok : PKsOk Try.prog N2 := PKsOk.anyF N1_ok 17 clashS clashO
theorem N3_ok : PKsOk Try.prog N3 := PKsOk.anyF N2_ok 16 saS saO
theorem N4_ok : PKsOk Try.prog N4 := PKsOk.anyF N3_ok 14 dropS dropO
theorem N5_ok : PKsOk Try.prog N5 := PKsOk.anyF N4_ok 13 slS slO
abbrev leaseForms_id : Nat := 5
abbrev leaseForms_sh : Shp := []
abbrev leaseForms_fs : List Lf := []
abbrev leaseForms_rsh : Shp := [none]
abbrev leaseForms_rfs : List Lf := [.fb]
noncomputable def leaseForms_r  : Option Ret :=
  oK (begunS.dec [] []) fun (d0 : PUnit) =>
  oK (granS.dec [AV.slc true [], AV.agg [AV.int IntKind.i64 3, AV.int IntKind.i64 2, AV.int IntKind.i64 1, AV.int IntKind.i64 20]] []) fun (d1 : (Bool × List (Int × Int × Int × Int)) × Int × Int × Int × Int) =>
    oK (granS.dec [AV.slc false (List.map (mkV true Lease_tfs) (granQ d1.fst.snd d1.snd)), AV.agg [AV.int IntKind.i64 1, AV.int IntKind.i64 2, AV.int IntKind.i64 1, AV.int IntKind.i64 10]] []) fun (d2 : (Bool × List (Int × Int × Int × Int)) × Int × Int × Int × Int) =>
      oK (granS.dec [AV.slc false (List.map (mkV true Lease_tfs) (granQ d2.fst.snd d2.snd)), AV.agg [AV.int IntKind.i64 2, AV.int IntKind.i64 1, AV.int IntKind.i64 2, AV.int IntKind.i64 15]] []) fun (d3 : (Bool × List (Int × Int × Int × Int)) × Int × Int × Int × Int) =>
        bK (!decide ((↑(List.map (mkV true Lease_tfs) (granQ d3.fst.snd d3.snd)).length : Int) = 3)) (some { pan := false, res := AV.bool false, out := [], new := [] })
          (oK (elemAt true Lease_tfs (List.map (mkV true Lease_tfs) (granQ d3.fst.snd d3.snd)) 0) fun (d4 : Int × Int × Int × Int) =>
            bK (!(decide (d4.fst = 2) && (decide (d4.snd.fst = 1) && (decide (d4.snd.snd.fst = 2) && (decide (d4.snd.snd.snd = 15) && true))))) (some { pan := false, res := AV.bool false, out := [], new := [] })
              (oK (elemAt true Lease_tfs (List.map (mkV true Lease_tfs) (granQ d3.fst.snd d3.snd)) 1) fun (d5 : Int × Int × Int × Int) =>
                bK (!(decide (d5.fst = 1) && (decide (d5.snd.fst = 2) && (decide (d5.snd.snd.fst = 1) && (decide (d5.snd.snd.snd = 10) && true))))) (some { pan := false, res := AV.bool false, out := [], new := [] })
                  (oK (elemAt true Lease_tfs (List.map (mkV true Lease_tfs) (granQ d3.fst.snd d3.snd)) 2) fun (d6 : Int × Int × Int × Int) =>
                    bK (!(decide (d6.fst = 3) && (decide (d6.snd.fst = 2) && (decide (d6.snd.snd.fst = 1) && (decide (d6.snd.snd.snd = 20) && true))))) (some { pan := false, res := AV.bool false, out := [], new := [] })
                      (oK (granS.dec [AV.slc false (List.map (mkV true Lease_tfs) (granQ d3.fst.snd d3.snd)), AV.agg [AV.int IntKind.i64 1, AV.int IntKind.i64 2, AV.int IntKind.i64 2, AV.int IntKind.i64 5]] []) fun (d7 : (Bool × List (Int × Int × Int × Int)) × Int × Int × Int × Int) =>
                        oK (granS.dec [AV.slc false (List.map (mkV true Lease_tfs) (granQ d3.fst.snd d3.snd)), AV.agg [AV.int IntKind.i64 2, AV.int IntKind.i64 1, AV.int IntKind.i64 1, AV.int IntKind.i64 50]] []) fun (d8 : (Bool × List (Int × Int × Int × Int)) × Int × Int × Int × Int) =>
                          bK (!decide ((↑(List.map (mkV true Lease_tfs) (granQ d7.fst.snd d7.snd)).length : Int) = 3)) (some { pan := false, res := AV.bool false, out := [], new := [] })
                            (bK (!decide ((↑(List.map (mkV true Lease_tfs) (granQ d8.fst.snd d8.snd)).length : Int) = 3)) (some { pan := false, res := AV.bool false, out := [], new := [] })
                              (oK (mayS.dec [AV.slc false [AV.agg [AV.int IntKind.i64 0, AV.int IntKind.i64 1, AV.int IntKind.i64 1, AV.int IntKind.i64 0]]] []) fun (d9 : Bool × List (Int × Int × Int × Int)) =>
                                bK (mayQ d9.snd) (some { pan := false, res := AV.bool false, out := [], new := [] })
                                  (oK (mayS.dec [AV.slc false [AV.agg [AV.int IntKind.i64 4, AV.int IntKind.i64 1, AV.int IntKind.i64 1, AV.int IntKind.i64 0]]] []) fun (d10 : Bool × List (Int × Int × Int × Int)) =>
                                    bK (mayQ d10.snd) (some { pan := false, res := AV.bool false, out := [], new := [] })
                                      (oK (mayS.dec [AV.slc false [AV.agg [AV.int IntKind.i64 1, AV.int IntKind.i64 7, AV.int IntKind.i64 1, AV.int IntKind.i64 0]]] []) fun (d11 : Bool × List (Int × Int × Int × Int)) =>
                                        bK (mayQ d11.snd) (some { pan := false, res := AV.bool false, out := [], new := [] })
                                          (oK (mayS.dec [AV.slc false [AV.agg [AV.int IntKind.i64 1, AV.int IntKind.i64 1, AV.int IntKind.i64 0, AV.int IntKind.i64 0]]] []) fun (d12 : Bool × List (Int × Int × Int × Int)) =>
                                            bK (mayQ d12.snd) (some { pan := false, res := AV.bool false, out := [], new := [] })
                                              (oK (mayS.dec [AV.slc false [AV.agg [AV.int IntKind.i64 1, AV.int IntKind.i64 1, AV.int IntKind.i64 3, AV.int IntKind.i64 0]]] []) fun (d13 : Bool × List (Int × Int × Int × Int)) =>
                                                bK (mayQ d13.snd) (some { pan := false, res := AV.bool false, out := [], new := [] })
                                                  (oK (mayS.dec [AV.slc false [AV.agg [AV.int IntKind.i64 1, AV.int IntKind.i64 1, AV.int IntKind.i64 1, AV.int IntKind.i64 (-1)]]] []) fun (d14 : Bool × List (Int × Int × Int × Int)) =>
                                                    bK (mayQ d14.snd) (some { pan := false, res := AV.bool false, out := [], new := [] })
                                                      (oK (mayS.dec [AV.slc false [AV.agg [AV.int IntKind.i64 1, AV.int IntKind.i64 2, AV.int IntKind.i64 1, AV.int IntKind.i64 10], AV.agg [AV.int IntKind.i64 1, AV.int IntKind.i64 2, AV.int IntKind.i64 1, AV.int IntKind.i64 10]]] []) fun (d15 : Bool × List (Int × Int × Int × Int)) =>
                                                        bK (mayQ d15.snd) (some { pan := false, res := AV.bool false, out := [], new := [] })
                                                          (oK (mayS.dec [AV.slc false [AV.agg [AV.int IntKind.i64 3, AV.int IntKind.i64 2, AV.int IntKind.i64 1, AV.int IntKind.i64 20], AV.agg [AV.int IntKind.i64 1, AV.int IntKind.i64 2, AV.int IntKind.i64 1, AV.int IntKind.i64 10]]] []) fun (d16 : Bool × List (Int × Int × Int × Int)) =>
                                                            bK (mayQ d16.snd) (some { pan := false, res := AV.bool false, out := [], new := [] })
                                                              (oK (mayS.dec [AV.slc false [AV.agg [AV.int IntKind.i64 1, AV.int IntKind.i64 2, AV.int IntKind.i64 1, AV.int IntKind.i64 10], AV.agg [AV.int IntKind.i64 2, AV.int IntKind.i64 1, AV.int IntKind.i64 2, AV.int IntKind.i64 15]]] []) fun (d17 : Bool × List (Int × Int × Int × Int)) =>
                                                                bK (mayQ d17.snd) (some { pan := false, res := AV.bool false, out := [], new := [] })
                                                                  (oK (elemAt true Lease_tfs (List.map (mkV true Lease_tfs) (granQ d7.fst.snd d7.snd)) 1) fun (d18 : Int × Int × Int × Int) =>
                                                                    bK (decide (d18.snd.snd.fst = 2))
                                                                      (oK (elemAt true Lease_tfs (List.map (mkV true Lease_tfs) (granQ d7.fst.snd d7.snd)) 1) fun (d19 : Int × Int × Int × Int) =>
                                                                        bK (decide (d19.snd.snd.snd = 10))
                                                                          (oK (elemAt true Lease_tfs (List.map (mkV true Lease_tfs) (granQ d8.fst.snd d8.snd)) 0) fun (d20 : Int × Int × Int × Int) =>
                                                                            bK (decide (d20.snd.snd.fst = 2))
                                                                              (oK (elemAt true Lease_tfs (List.map (mkV true Lease_tfs) (granQ d8.fst.snd d8.snd)) 0) fun (d21 : Int × Int × Int × Int) =>
                                                                                bK (decide (d21.snd.snd.snd = 50))
                                                                                  (oK (clashS.dec [AV.slc false (List.map (mkV true Lease_tfs) (granQ d3.fst.snd d3.snd)), AV.int IntKind.i64 9, AV.int IntKind.i64 2, AV.int IntKind.i64 2, AV.int IntKind.i64 2] []) fun (d22 : (Bool × List (Int × Int × Int × Int)) × Int × Int × Int × Int) =>
                                                                                    oK (saS.dec [AV.slc (csF d22.fst.snd d22.snd.fst d22.snd.snd.fst d22.snd.snd.snd.fst d22.snd.snd.snd.snd).isEmpty (List.map (mkV false I1_tfs) (csF d22.fst.snd d22.snd.fst d22.snd.snd.fst d22.snd.snd.snd.fst d22.snd.snd.snd.snd)), AV.slc false [AV.int IntKind.i64 1, AV.int IntKind.i64 3]] []) fun (d23 : (Bool × List Int) × Bool × List Int) =>
                                                                                      bK (saQ d23.fst.snd d23.snd.snd)
                                                                                        (oK (clashS.dec [AV.slc false (List.map (mkV true Lease_tfs) (granQ d3.fst.snd d3.snd)), AV.int IntKind.i64 10, AV.int IntKind.i64 2, AV.int IntKind.i64 2, AV.int IntKind.i64 2] []) fun (d24 : (Bool × List (Int × Int × Int × Int)) × Int × Int × Int × Int) =>
                                                                                          oK (saS.dec [AV.slc (csF d24.fst.snd d24.snd.fst d24.snd.snd.fst d24.snd.snd.snd.fst d24.snd.snd.snd.snd).isEmpty (List.map (mkV false I1_tfs) (csF d24.fst.snd d24.snd.fst d24.snd.snd.fst d24.snd.snd.snd.fst d24.snd.snd.snd.snd)), AV.slc false [AV.int IntKind.i64 3]] []) fun (d25 : (Bool × List Int) × Bool × List Int) =>
                                                                                            bK (saQ d25.fst.snd d25.snd.snd)
                                                                                              (oK (clashS.dec [AV.slc false (List.map (mkV true Lease_tfs) (granQ d3.fst.snd d3.snd)), AV.int IntKind.i64 9, AV.int IntKind.i64 2, AV.int IntKind.i64 2, AV.int IntKind.i64 1] []) fun (d26 : (Bool × List (Int × Int × Int × Int)) × Int × Int × Int × Int) =>
                                                                                                bK (decide ((↑(List.map (mkV false I1_tfs) (csF d26.fst.snd d26.snd.fst d26.snd.snd.fst d26.snd.snd.snd.fst d26.snd.snd.snd.snd)).length : Int) = 0))
                                                                                                  (oK (clashS.dec [AV.slc false (List.map (mkV true Lease_tfs) (granQ d3.fst.snd d3.snd)), AV.int IntKind.i64 9, AV.int IntKind.i64 1, AV.int IntKind.i64 1, AV.int IntKind.i64 1] []) fun (d27 : (Bool × List (Int × Int × Int × Int)) × Int × Int × Int × Int) =>
                                                                                                    oK (saS.dec [AV.slc (csF d27.fst.snd d27.snd.fst d27.snd.snd.fst d27.snd.snd.snd.fst d27.snd.snd.snd.snd).isEmpty (List.map (mkV false I1_tfs) (csF d27.fst.snd d27.snd.fst d27.snd.snd.fst d27.snd.snd.snd.fst d27.snd.snd.snd.snd)), AV.slc false [AV.int IntKind.i64 2]] []) fun (d28 : (Bool × List Int) × Bool × List Int) =>
                                                                                                      bK (saQ d28.fst.snd d28.snd.snd)
                                                                                                        (oK (clashS.dec [AV.slc false (List.map (mkV true Lease_tfs) (granQ d3.fst.snd d3.snd)), AV.int IntKind.i64 9, AV.int IntKind.i64 2, AV.int IntKind.i64 1, AV.int IntKind.i64 2] []) fun (d29 : (Bool × List (Int × Int × Int × Int)) × Int × Int × Int × Int) =>
                                                                                                          bK (decide ((↑(List.map (mkV false I1_tfs) (csF d29.fst.snd d29.snd.fst d29.snd.snd.fst d29.snd.snd.snd.fst d29.snd.snd.snd.snd)).length : Int) = 0))
                                                                                                            (oK (pruneS.dec [AV.slc false (List.map (mkV true Lease_tfs) (granQ d3.fst.snd d3.snd)), AV.int IntKind.i64 15] []) fun (d30 : (Bool × List (Int × Int × Int × Int)) × Int) =>
                                                                                                              bK (decide ((↑(List.map (mkV true Lease_tfs) (pruneQ d30.fst.snd d30.snd)).length : Int) = 1)) (oK (pruneS.dec [AV.slc false (List.map (mkV true Lease_tfs) (granQ d3.fst.snd d3.snd)), AV.int IntKind.i64 0] []) fun (d31 : (Bool × List (Int × Int × Int × Int)) × Int) => bK (decide ((↑(List.map (mkV true Lease_tfs) (pruneQ d31.fst.snd d31.snd)).length : Int) = 3)) (oK (dropS.dec [AV.slc false (List.map (mkV true Lease_tfs) (granQ d3.fst.snd d3.snd)), AV.int IntKind.i64 1, AV.int IntKind.i64 1] []) fun (d32 : (Bool × List (Int × Int × Int × Int)) × Int × Int) => bK (decide ((↑(List.map (mkV true Lease_tfs) (dropQ d32.fst.snd d32.snd.fst d32.snd.snd)).length : Int) = 3)) (oK (mayS.dec [AV.slc false (List.map (mkV true Lease_tfs) (granQ d3.fst.snd d3.snd))] []) fun (d33 : Bool × List (Int × Int × Int × Int)) => bK (mayQ d33.snd) (oK (mayS.dec [AV.slc true []] []) fun (d34 : Bool × List (Int × Int × Int × Int)) => some { pan := false, res := AV.bool (mayQ d34.snd), out := [], new := [] }) (some { pan := false, res := AV.bool false, out := [], new := [] })) (some { pan := false, res := AV.bool false, out := [], new := [] })) (some { pan := false, res := AV.bool false, out := [], new := [] })) (some { pan := false, res := AV.bool false, out := [], new := [] }))
                                                                                                            (some { pan := false, res := AV.bool false, out := [], new := [] }))
                                                                                                        (some { pan := false, res := AV.bool false, out := [], new := [] }))
                                                                                                  (some { pan := false, res := AV.bool false, out := [], new := [] }))
                                                                                              (some { pan := false, res := AV.bool false, out := [], new := [] }))
                                                                                        (some { pan := false, res := AV.bool false, out := [], new := [] }))
                                                                                  (some { pan := false, res := AV.bool false, out := [], new := [] }))
                                                                              (some { pan := false, res := AV.bool false, out := [], new := [] }))
                                                                          (some { pan := false, res := AV.bool false, out := [], new := [] }))
                                                                      (some { pan := false, res := AV.bool false, out := [], new := [] }))))))))))))))))
theorem leaseForms_w  : unitQ Try.prog cfg N5 LP0 true 5 (groupA leaseForms_sh (Tu.mk leaseForms_fs ())) [] = leaseForms_r  := by kernel_rfl

theorem leaseForms_yes (h : Tu.wf leaseForms_fs ()) : Yes leaseForms_r := by
  unfold leaseForms_r
  refine oK_fsq (Q := Yes) begunS () trivial ?_
  refine oK_fsq (Q := Yes) granS ((true, []), ((3, 2, 1, 20) : Lease_T)) (by show _ ≤ _; decide) ?_
  dsimp only
  rw [show granQ [] (3, 2, 1, 20) = [(3, 2, 1, 20)] by decide]
  refine oK_fsq (Q := Yes) granS ((false, [(3, 2, 1, 20)]), ((1, 2, 1, 10) : Lease_T)) (by show _ ≤ _; decide) ?_
  dsimp only
  rw [show granQ [(3, 2, 1, 20)] (1, 2, 1, 10) = [(1, 2, 1, 10), (3, 2, 1, 20)] by decide]
  refine oK_fsq (Q := Yes) granS ((false, [(1, 2, 1, 10), (3, 2, 1, 20)]), ((2, 1, 2, 15) : Lease_T)) (by show _ ≤ _; decide) ?_
  dsimp only
  rw [show granQ [(1, 2, 1, 10), (3, 2, 1, 20)] (2, 1, 2, 15) = [(2, 1, 2, 15), (1, 2, 1, 10), (3, 2, 1, 20)] by decide]
  refine bK_fq (Q := Yes) (rfl) ?_
  refine oK_atq (Q := Yes) (fs := Lease_tfs) zL (by decide) (by decide) ?_
  refine bK_fq (Q := Yes) (rfl) ?_
  refine oK_atq (Q := Yes) (fs := Lease_tfs) zL (by decide) (by decide) ?_
  refine bK_fq (Q := Yes) (rfl) ?_
  refine oK_atq (Q := Yes) (fs := Lease_tfs) zL (by decide) (by decide) ?_
  refine bK_fq (Q := Yes) (rfl) ?_
  refine oK_fsq (Q := Yes) granS ((false, [(2, 1, 2, 15), (1, 2, 1, 10), (3, 2, 1, 20)]), ((1, 2, 2, 5) : Lease_T)) (by show _ ≤ _; decide) ?_
  dsimp only
  rw [show granQ [(2, 1, 2, 15), (1, 2, 1, 10), (3, 2, 1, 20)] (1, 2, 2, 5) = [(2, 1, 2, 15), (1, 2, 2, 10), (3, 2, 1, 20)] by decide]
  refine oK_fsq (Q := Yes) granS ((false, [(2, 1, 2, 15), (1, 2, 1, 10), (3, 2, 1, 20)]), ((2, 1, 1, 50) : Lease_T)) (by show _ ≤ _; decide) ?_
  dsimp only
  rw [show granQ [(2, 1, 2, 15), (1, 2, 1, 10), (3, 2, 1, 20)] (2, 1, 1, 50) = [(2, 1, 2, 50), (1, 2, 1, 10), (3, 2, 1, 20)] by decide]
  refine bK_fq (Q := Yes) (rfl) ?_
  refine bK_fq (Q := Yes) (rfl) ?_
  refine oK_fsq (Q := Yes) mayS (false, ([(0, 1, 1, 0)] : List Lease_T)) (by show _ ≤ _; decide) ?_
  refine bK_fq (Q := Yes) (show mayQ [(0, 1, 1, 0)] = false by decide) ?_
  refine oK_fsq (Q := Yes) mayS (false, ([(4, 1, 1, 0)] : List Lease_T)) (by show _ ≤ _; decide) ?_
  refine bK_fq (Q := Yes) (show mayQ [(4, 1, 1, 0)] = false by decide) ?_
  refine oK_fsq (Q := Yes) mayS (false, ([(1, 7, 1, 0)] : List Lease_T)) (by show _ ≤ _; decide) ?_
  refine bK_fq (Q := Yes) (show mayQ [(1, 7, 1, 0)] = false by decide) ?_
  refine oK_fsq (Q := Yes) mayS (false, ([(1, 1, 0, 0)] : List Lease_T)) (by show _ ≤ _; decide) ?_
  refine bK_fq (Q := Yes) (show mayQ [(1, 1, 0, 0)] = false by decide) ?_
  refine oK_fsq (Q := Yes) mayS (false, ([(1, 1, 3, 0)] : List Lease_T)) (by show _ ≤ _; decide) ?_
  refine bK_fq (Q := Yes) (show mayQ [(1, 1, 3, 0)] = false by decide) ?_
  refine oK_fsq (Q := Yes) mayS (false, ([(1, 1, 1, -1)] : List Lease_T)) (by show _ ≤ _; decide) ?_
  refine bK_fq (Q := Yes) (show mayQ [(1, 1, 1, -1)] = false by decide) ?_
  refine oK_fsq (Q := Yes) mayS (false, ([(1, 2, 1, 10), (1, 2, 1, 10)] : List Lease_T)) (by show _ ≤ _; decide) ?_
  refine bK_fq (Q := Yes) (show mayQ [(1, 2, 1, 10), (1, 2, 1, 10)] = false by decide) ?_
  refine oK_fsq (Q := Yes) mayS (false, ([(3, 2, 1, 20), (1, 2, 1, 10)] : List Lease_T)) (by show _ ≤ _; decide) ?_
  refine bK_fq (Q := Yes) (show mayQ [(3, 2, 1, 20), (1, 2, 1, 10)] = false by decide) ?_
  refine oK_fsq (Q := Yes) mayS (false, ([(1, 2, 1, 10), (2, 1, 2, 15)] : List Lease_T)) (by show _ ≤ _; decide) ?_
  refine bK_fq (Q := Yes) (show mayQ [(1, 2, 1, 10), (2, 1, 2, 15)] = false by decide) ?_
  refine oK_atq (Q := Yes) (fs := Lease_tfs) zL (by decide) (by decide) ?_
  refine bK_tq (Q := Yes) (rfl) ?_
  refine oK_atq (Q := Yes) (fs := Lease_tfs) zL (by decide) (by decide) ?_
  refine bK_tq (Q := Yes) (rfl) ?_
  refine oK_atq (Q := Yes) (fs := Lease_tfs) zL (by decide) (by decide) ?_
  refine bK_tq (Q := Yes) (rfl) ?_
  refine oK_atq (Q := Yes) (fs := Lease_tfs) zL (by decide) (by decide) ?_
  refine bK_tq (Q := Yes) (rfl) ?_
  refine oK_fsq (Q := Yes) clashS ((false, ([(2, 1, 2, 15), (1, 2, 1, 10), (3, 2, 1, 20)] : List Lease_T)), 9, 2, 2, 2) (by show _ ≤ _; decide) ?_
  dsimp only
  rw [show csF [(2, 1, 2, 15), (1, 2, 1, 10), (3, 2, 1, 20)] 9 2 2 2 = [1, 3] by decide]
  refine oK_fsq (Q := Yes) saS ((false, ([1, 3] : List Int)), (false, ([1, 3] : List Int))) (by show _ ≤ _; decide) ?_
  refine bK_tq (Q := Yes) (show saQ [1, 3] [1, 3] = true by decide) ?_
  refine oK_fsq (Q := Yes) clashS ((false, ([(2, 1, 2, 15), (1, 2, 1, 10), (3, 2, 1, 20)] : List Lease_T)), 10, 2, 2, 2) (by show _ ≤ _; decide) ?_
  dsimp only
  rw [show csF [(2, 1, 2, 15), (1, 2, 1, 10), (3, 2, 1, 20)] 10 2 2 2 = [3] by decide]
  refine oK_fsq (Q := Yes) saS ((false, ([3] : List Int)), (false, ([3] : List Int))) (by show _ ≤ _; decide) ?_
  refine bK_tq (Q := Yes) (show saQ [3] [3] = true by decide) ?_
  refine oK_fsq (Q := Yes) clashS ((false, ([(2, 1, 2, 15), (1, 2, 1, 10), (3, 2, 1, 20)] : List Lease_T)), 9, 2, 2, 1) (by show _ ≤ _; decide) ?_
  dsimp only
  rw [show csF [(2, 1, 2, 15), (1, 2, 1, 10), (3, 2, 1, 20)] 9 2 2 1 = [] by decide]
  refine bK_tq (Q := Yes) (rfl) ?_
  refine oK_fsq (Q := Yes) clashS ((false, ([(2, 1, 2, 15), (1, 2, 1, 10), (3, 2, 1, 20)] : List Lease_T)), 9, 1, 1, 1) (by show _ ≤ _; decide) ?_
  dsimp only
  rw [show csF [(2, 1, 2, 15), (1, 2, 1, 10), (3, 2, 1, 20)] 9 1 1 1 = [2] by decide]
  refine oK_fsq (Q := Yes) saS ((false, ([2] : List Int)), (false, ([2] : List Int))) (by show _ ≤ _; decide) ?_
  refine bK_tq (Q := Yes) (show saQ [2] [2] = true by decide) ?_
  refine oK_fsq (Q := Yes) clashS ((false, ([(2, 1, 2, 15), (1, 2, 1, 10), (3, 2, 1, 20)] : List Lease_T)), 9, 2, 1, 2) (by show _ ≤ _; decide) ?_
  dsimp only
  rw [show csF [(2, 1, 2, 15), (1, 2, 1, 10), (3, 2, 1, 20)] 9 2 1 2 = [] by decide]
  refine bK_tq (Q := Yes) (rfl) ?_
  refine oK_fsq (Q := Yes) pruneS ((false, ([(2, 1, 2, 15), (1, 2, 1, 10), (3, 2, 1, 20)] : List Lease_T)), (15 : Int)) (by show _ ≤ _; decide) ?_
  refine bK_tq (Q := Yes) (by decide) ?_
  refine oK_fsq (Q := Yes) pruneS ((false, ([(2, 1, 2, 15), (1, 2, 1, 10), (3, 2, 1, 20)] : List Lease_T)), (0 : Int)) (by show _ ≤ _; decide) ?_
  refine bK_tq (Q := Yes) (by decide) ?_
  refine oK_fsq (Q := Yes) dropS ((false, ([(2, 1, 2, 15), (1, 2, 1, 10), (3, 2, 1, 20)] : List Lease_T)), (1 : Int), (1 : Int)) (by show _ ≤ _; decide) ?_
  refine bK_tq (Q := Yes) (by decide) ?_
  refine oK_fsq (Q := Yes) mayS (false, ([(2, 1, 2, 15), (1, 2, 1, 10), (3, 2, 1, 20)] : List Lease_T)) (by show _ ≤ _; decide) ?_
  refine bK_tq (Q := Yes) (show mayQ [(2, 1, 2, 15), (1, 2, 1, 10), (3, 2, 1, 20)] = true by decide) ?_
  refine oK_fsq (Q := Yes) mayS (true, ([] : List Lease_T)) (by show _ ≤ _; decide) ?_
  exact yes_of (by decide)

end Go.Proofs.Ytbifdenekkijfaa
