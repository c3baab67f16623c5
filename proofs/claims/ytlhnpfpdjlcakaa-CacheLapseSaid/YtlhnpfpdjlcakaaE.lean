/- A part of the proof: contracts of functions. -/
import Derived.Test.YtlhnpfpdjlcakaaK
import Derived.Test.YtlhnpfpdjlcakaaAbCl

set_option linter.unusedVariables false
set_option linter.unusedSimpArgs false
set_option maxRecDepth 100000
namespace Go.Proofs.Ytlhnpfpdjlcakaa
open Go Go.Ab
abbrev cacheLapse_id : Nat := 6
abbrev cacheLapse_sh : Shp := [none, none]
abbrev cacheLapse_fs : List Lf := [.fl false [.fi .u8], .fi .u8]
abbrev cacheLapse_rsh : Shp := [none]
abbrev cacheLapse_rfs : List Lf := [.fb]
noncomputable def cacheLapse_r (picks_x : Bool) (picks : List Int) (now : Int) : Option Ret :=
  oK (begunS.dec [] []) fun (d0 : PUnit) =>
  bK (decide (40 < (↑(List.map (mkV false [Lf.fi IntKind.u8]) picks).length : Int))) (some { pan := false, res := AV.bool true, out := [], new := [] })
    (oK (cachePS.dec [AV.ptr 1000000 0 0 0] [{ v := 0, k := BK.box, fz := false, sz := 0, es := [AV.slc picks_x (List.map (mkV false [Lf.fi IntKind.u8]) picks), AV.int IntKind.i64 0] }]) fun (d1 : ((Bool × List Int) × Int) × PUnit) =>
      oK (lapseS.dec [AV.agg [AV.int IntKind.i64 (cacheF d1.fst).snd.fst, AV.int IntKind.i64 (cacheF d1.fst).snd.snd.fst, AV.int IntKind.i64 (cacheF d1.fst).snd.snd.snd.fst, AV.str (cacheF d1.fst).snd.snd.snd.snd.fst, AV.slc (cacheF d1.fst).snd.snd.snd.snd.snd.fst.fst (List.map (mkV true Write_tfs) (cacheF d1.fst).snd.snd.snd.snd.snd.fst.snd), AV.int IntKind.i64 (cacheF d1.fst).snd.snd.snd.snd.snd.snd.fst, AV.bool (cacheF d1.fst).snd.snd.snd.snd.snd.snd.snd.fst, AV.bool (cacheF d1.fst).snd.snd.snd.snd.snd.snd.snd.snd], AV.int IntKind.i64 (IntKind.i64.wrap (now.tmod 120))] []) fun (d2 : Int × Int × Int × List UInt8 × (Bool × List (Int × List UInt8)) × Int × Bool × Bool × Int) =>
        bK (decide ((cacheF d1.fst).snd.fst = 0)) (oK (sameCS.dec [AV.agg [AV.int IntKind.i64 (lapseF (cOf d2) (nOf d2)).fst, AV.int IntKind.i64 (lapseF (cOf d2) (nOf d2)).snd.fst, AV.int IntKind.i64 (lapseF (cOf d2) (nOf d2)).snd.snd.fst, AV.str (lapseF (cOf d2) (nOf d2)).snd.snd.snd.fst, AV.slc (lapseF (cOf d2) (nOf d2)).snd.snd.snd.snd.fst.fst (List.map (mkV true Write_tfs) (lapseF (cOf d2) (nOf d2)).snd.snd.snd.snd.fst.snd), AV.int IntKind.i64 (lapseF (cOf d2) (nOf d2)).snd.snd.snd.snd.snd.fst, AV.bool (lapseF (cOf d2) (nOf d2)).snd.snd.snd.snd.snd.snd.fst, AV.bool (lapseF (cOf d2) (nOf d2)).snd.snd.snd.snd.snd.snd.snd], AV.agg [AV.int IntKind.i64 (cacheF d1.fst).snd.fst, AV.int IntKind.i64 (cacheF d1.fst).snd.snd.fst, AV.int IntKind.i64 (cacheF d1.fst).snd.snd.snd.fst, AV.str (cacheF d1.fst).snd.snd.snd.snd.fst, AV.slc (cacheF d1.fst).snd.snd.snd.snd.snd.fst.fst (List.map (mkV true Write_tfs) (cacheF d1.fst).snd.snd.snd.snd.snd.fst.snd), AV.int IntKind.i64 (cacheF d1.fst).snd.snd.snd.snd.snd.snd.fst, AV.bool (cacheF d1.fst).snd.snd.snd.snd.snd.snd.snd.fst, AV.bool (cacheF d1.fst).snd.snd.snd.snd.snd.snd.snd.snd]] []) fun (d3 : Int × Int × Int × List UInt8 × (Bool × List (Int × List UInt8)) × Int × Bool × Bool × Int × Int × Int × List UInt8 × (Bool × List (Int × List UInt8)) × Int × Bool × Bool) => some { pan := false, res := AV.bool (sameCF (sA d3) (sB d3)), out := [], new := [] })
          (bK (decide (IntKind.i64.wrap (now.tmod 120) < (cacheF d1.fst).snd.snd.fst)) (oK (sameCS.dec [AV.agg [AV.int IntKind.i64 (lapseF (cOf d2) (nOf d2)).fst, AV.int IntKind.i64 (lapseF (cOf d2) (nOf d2)).snd.fst, AV.int IntKind.i64 (lapseF (cOf d2) (nOf d2)).snd.snd.fst, AV.str (lapseF (cOf d2) (nOf d2)).snd.snd.snd.fst, AV.slc (lapseF (cOf d2) (nOf d2)).snd.snd.snd.snd.fst.fst (List.map (mkV true Write_tfs) (lapseF (cOf d2) (nOf d2)).snd.snd.snd.snd.fst.snd), AV.int IntKind.i64 (lapseF (cOf d2) (nOf d2)).snd.snd.snd.snd.snd.fst, AV.bool (lapseF (cOf d2) (nOf d2)).snd.snd.snd.snd.snd.snd.fst, AV.bool (lapseF (cOf d2) (nOf d2)).snd.snd.snd.snd.snd.snd.snd], AV.agg [AV.int IntKind.i64 (cacheF d1.fst).snd.fst, AV.int IntKind.i64 (cacheF d1.fst).snd.snd.fst, AV.int IntKind.i64 (cacheF d1.fst).snd.snd.snd.fst, AV.str (cacheF d1.fst).snd.snd.snd.snd.fst, AV.slc (cacheF d1.fst).snd.snd.snd.snd.snd.fst.fst (List.map (mkV true Write_tfs) (cacheF d1.fst).snd.snd.snd.snd.snd.fst.snd), AV.int IntKind.i64 (cacheF d1.fst).snd.snd.snd.snd.snd.snd.fst, AV.bool (cacheF d1.fst).snd.snd.snd.snd.snd.snd.snd.fst, AV.bool (cacheF d1.fst).snd.snd.snd.snd.snd.snd.snd.snd]] []) fun (d4 : Int × Int × Int × List UInt8 × (Bool × List (Int × List UInt8)) × Int × Bool × Bool × Int × Int × Int × List UInt8 × (Bool × List (Int × List UInt8)) × Int × Bool × Bool) => some { pan := false, res := AV.bool (sameCF (sA d4) (sB d4)), out := [], new := [] })
            (bK (cacheF d1.fst).snd.snd.snd.snd.snd.snd.snd.snd
              (oK (sameCS.dec [AV.agg [AV.int IntKind.i64 (lapseF (cOf d2) (nOf d2)).fst, AV.int IntKind.i64 (lapseF (cOf d2) (nOf d2)).snd.fst, AV.int IntKind.i64 (lapseF (cOf d2) (nOf d2)).snd.snd.fst, AV.str (lapseF (cOf d2) (nOf d2)).snd.snd.snd.fst, AV.slc (lapseF (cOf d2) (nOf d2)).snd.snd.snd.snd.fst.fst (List.map (mkV true Write_tfs) (lapseF (cOf d2) (nOf d2)).snd.snd.snd.snd.fst.snd), AV.int IntKind.i64 (lapseF (cOf d2) (nOf d2)).snd.snd.snd.snd.snd.fst, AV.bool (lapseF (cOf d2) (nOf d2)).snd.snd.snd.snd.snd.snd.fst, AV.bool (lapseF (cOf d2) (nOf d2)).snd.snd.snd.snd.snd.snd.snd], AV.agg [AV.int IntKind.i64 0, AV.int IntKind.i64 0, AV.int IntKind.i64 0, AV.str [], AV.slc true [], AV.int IntKind.i64 0, AV.bool false, AV.bool true]] []) fun (d5 : Int × Int × Int × List UInt8 × (Bool × List (Int × List UInt8)) × Int × Bool × Bool × Int × Int × Int × List UInt8 × (Bool × List (Int × List UInt8)) × Int × Bool × Bool) =>
                bK (sameCF (sA d5) (sB d5))
                  (oK (validS.dec [AV.agg [AV.int IntKind.i64 (lapseF (cOf d2) (nOf d2)).fst, AV.int IntKind.i64 (lapseF (cOf d2) (nOf d2)).snd.fst, AV.int IntKind.i64 (lapseF (cOf d2) (nOf d2)).snd.snd.fst, AV.str (lapseF (cOf d2) (nOf d2)).snd.snd.snd.fst, AV.slc (lapseF (cOf d2) (nOf d2)).snd.snd.snd.snd.fst.fst (List.map (mkV true Write_tfs) (lapseF (cOf d2) (nOf d2)).snd.snd.snd.snd.fst.snd), AV.int IntKind.i64 (lapseF (cOf d2) (nOf d2)).snd.snd.snd.snd.snd.fst, AV.bool (lapseF (cOf d2) (nOf d2)).snd.snd.snd.snd.snd.snd.fst, AV.bool (lapseF (cOf d2) (nOf d2)).snd.snd.snd.snd.snd.snd.snd], AV.int IntKind.i64 0] []) fun (d6 : Int × Int × Int × List UInt8 × (Bool × List (Int × List UInt8)) × Int × Bool × Bool × Int) =>
                    bK (decide (validF (cOf d6) (nOf d6) = 0))
                      (oK (lapseS.dec [AV.agg [AV.int IntKind.i64 (lapseF (cOf d2) (nOf d2)).fst, AV.int IntKind.i64 (lapseF (cOf d2) (nOf d2)).snd.fst, AV.int IntKind.i64 (lapseF (cOf d2) (nOf d2)).snd.snd.fst, AV.str (lapseF (cOf d2) (nOf d2)).snd.snd.snd.fst, AV.slc (lapseF (cOf d2) (nOf d2)).snd.snd.snd.snd.fst.fst (List.map (mkV true Write_tfs) (lapseF (cOf d2) (nOf d2)).snd.snd.snd.snd.fst.snd), AV.int IntKind.i64 (lapseF (cOf d2) (nOf d2)).snd.snd.snd.snd.snd.fst, AV.bool (lapseF (cOf d2) (nOf d2)).snd.snd.snd.snd.snd.snd.fst, AV.bool (lapseF (cOf d2) (nOf d2)).snd.snd.snd.snd.snd.snd.snd], AV.int IntKind.i64 (IntKind.i64.wrap (IntKind.i64.wrap (now.tmod 120) + 50))] []) fun (d7 : Int × Int × Int × List UInt8 × (Bool × List (Int × List UInt8)) × Int × Bool × Bool × Int) =>
                        oK (sameCS.dec [AV.agg [AV.int IntKind.i64 (lapseF (cOf d7) (nOf d7)).fst, AV.int IntKind.i64 (lapseF (cOf d7) (nOf d7)).snd.fst, AV.int IntKind.i64 (lapseF (cOf d7) (nOf d7)).snd.snd.fst, AV.str (lapseF (cOf d7) (nOf d7)).snd.snd.snd.fst, AV.slc (lapseF (cOf d7) (nOf d7)).snd.snd.snd.snd.fst.fst (List.map (mkV true Write_tfs) (lapseF (cOf d7) (nOf d7)).snd.snd.snd.snd.fst.snd), AV.int IntKind.i64 (lapseF (cOf d7) (nOf d7)).snd.snd.snd.snd.snd.fst, AV.bool (lapseF (cOf d7) (nOf d7)).snd.snd.snd.snd.snd.snd.fst, AV.bool (lapseF (cOf d7) (nOf d7)).snd.snd.snd.snd.snd.snd.snd], AV.agg [AV.int IntKind.i64 (lapseF (cOf d2) (nOf d2)).fst, AV.int IntKind.i64 (lapseF (cOf d2) (nOf d2)).snd.fst, AV.int IntKind.i64 (lapseF (cOf d2) (nOf d2)).snd.snd.fst, AV.str (lapseF (cOf d2) (nOf d2)).snd.snd.snd.fst, AV.slc (lapseF (cOf d2) (nOf d2)).snd.snd.snd.snd.fst.fst (List.map (mkV true Write_tfs) (lapseF (cOf d2) (nOf d2)).snd.snd.snd.snd.fst.snd), AV.int IntKind.i64 (lapseF (cOf d2) (nOf d2)).snd.snd.snd.snd.snd.fst, AV.bool (lapseF (cOf d2) (nOf d2)).snd.snd.snd.snd.snd.snd.fst, AV.bool (lapseF (cOf d2) (nOf d2)).snd.snd.snd.snd.snd.snd.snd]] []) fun (d8 : Int × Int × Int × List UInt8 × (Bool × List (Int × List UInt8)) × Int × Bool × Bool × Int × Int × Int × List UInt8 × (Bool × List (Int × List UInt8)) × Int × Bool × Bool) => some { pan := false, res := AV.bool (sameCF (sA d8) (sB d8)), out := [], new := [] })
                      (some { pan := false, res := AV.bool false, out := [], new := [] }))
                  (some { pan := false, res := AV.bool false, out := [], new := [] }))
              (oK (sameCS.dec [AV.agg [AV.int IntKind.i64 (lapseF (cOf d2) (nOf d2)).fst, AV.int IntKind.i64 (lapseF (cOf d2) (nOf d2)).snd.fst, AV.int IntKind.i64 (lapseF (cOf d2) (nOf d2)).snd.snd.fst, AV.str (lapseF (cOf d2) (nOf d2)).snd.snd.snd.fst, AV.slc (lapseF (cOf d2) (nOf d2)).snd.snd.snd.snd.fst.fst (List.map (mkV true Write_tfs) (lapseF (cOf d2) (nOf d2)).snd.snd.snd.snd.fst.snd), AV.int IntKind.i64 (lapseF (cOf d2) (nOf d2)).snd.snd.snd.snd.snd.fst, AV.bool (lapseF (cOf d2) (nOf d2)).snd.snd.snd.snd.snd.snd.fst, AV.bool (lapseF (cOf d2) (nOf d2)).snd.snd.snd.snd.snd.snd.snd], AV.agg [AV.int IntKind.i64 0, AV.int IntKind.i64 0, AV.int IntKind.i64 0, AV.str [], AV.slc true [], AV.int IntKind.i64 0, AV.bool false, AV.bool (decide (0 < (↑(List.map (mkV true Write_tfs) (cacheF d1.fst).snd.snd.snd.snd.snd.fst.snd).length : Int)))]] []) fun (d9 : Int × Int × Int × List UInt8 × (Bool × List (Int × List UInt8)) × Int × Bool × Bool × Int × Int × Int × List UInt8 × (Bool × List (Int × List UInt8)) × Int × Bool × Bool) =>
                bK (sameCF (sA d9) (sB d9))
                  (oK (validS.dec [AV.agg [AV.int IntKind.i64 (lapseF (cOf d2) (nOf d2)).fst, AV.int IntKind.i64 (lapseF (cOf d2) (nOf d2)).snd.fst, AV.int IntKind.i64 (lapseF (cOf d2) (nOf d2)).snd.snd.fst, AV.str (lapseF (cOf d2) (nOf d2)).snd.snd.snd.fst, AV.slc (lapseF (cOf d2) (nOf d2)).snd.snd.snd.snd.fst.fst (List.map (mkV true Write_tfs) (lapseF (cOf d2) (nOf d2)).snd.snd.snd.snd.fst.snd), AV.int IntKind.i64 (lapseF (cOf d2) (nOf d2)).snd.snd.snd.snd.snd.fst, AV.bool (lapseF (cOf d2) (nOf d2)).snd.snd.snd.snd.snd.snd.fst, AV.bool (lapseF (cOf d2) (nOf d2)).snd.snd.snd.snd.snd.snd.snd], AV.int IntKind.i64 0] []) fun (d10 : Int × Int × Int × List UInt8 × (Bool × List (Int × List UInt8)) × Int × Bool × Bool × Int) =>
                    bK (decide (validF (cOf d10) (nOf d10) = 0))
                      (oK (lapseS.dec [AV.agg [AV.int IntKind.i64 (lapseF (cOf d2) (nOf d2)).fst, AV.int IntKind.i64 (lapseF (cOf d2) (nOf d2)).snd.fst, AV.int IntKind.i64 (lapseF (cOf d2) (nOf d2)).snd.snd.fst, AV.str (lapseF (cOf d2) (nOf d2)).snd.snd.snd.fst, AV.slc (lapseF (cOf d2) (nOf d2)).snd.snd.snd.snd.fst.fst (List.map (mkV true Write_tfs) (lapseF (cOf d2) (nOf d2)).snd.snd.snd.snd.fst.snd), AV.int IntKind.i64 (lapseF (cOf d2) (nOf d2)).snd.snd.snd.snd.snd.fst, AV.bool (lapseF (cOf d2) (nOf d2)).snd.snd.snd.snd.snd.snd.fst, AV.bool (lapseF (cOf d2) (nOf d2)).snd.snd.snd.snd.snd.snd.snd], AV.int IntKind.i64 (IntKind.i64.wrap (IntKind.i64.wrap (now.tmod 120) + 50))] []) fun (d11 : Int × Int × Int × List UInt8 × (Bool × List (Int × List UInt8)) × Int × Bool × Bool × Int) =>
                        oK (sameCS.dec [AV.agg [AV.int IntKind.i64 (lapseF (cOf d11) (nOf d11)).fst, AV.int IntKind.i64 (lapseF (cOf d11) (nOf d11)).snd.fst, AV.int IntKind.i64 (lapseF (cOf d11) (nOf d11)).snd.snd.fst, AV.str (lapseF (cOf d11) (nOf d11)).snd.snd.snd.fst, AV.slc (lapseF (cOf d11) (nOf d11)).snd.snd.snd.snd.fst.fst (List.map (mkV true Write_tfs) (lapseF (cOf d11) (nOf d11)).snd.snd.snd.snd.fst.snd), AV.int IntKind.i64 (lapseF (cOf d11) (nOf d11)).snd.snd.snd.snd.snd.fst, AV.bool (lapseF (cOf d11) (nOf d11)).snd.snd.snd.snd.snd.snd.fst, AV.bool (lapseF (cOf d11) (nOf d11)).snd.snd.snd.snd.snd.snd.snd], AV.agg [AV.int IntKind.i64 (lapseF (cOf d2) (nOf d2)).fst, AV.int IntKind.i64 (lapseF (cOf d2) (nOf d2)).snd.fst, AV.int IntKind.i64 (lapseF (cOf d2) (nOf d2)).snd.snd.fst, AV.str (lapseF (cOf d2) (nOf d2)).snd.snd.snd.fst, AV.slc (lapseF (cOf d2) (nOf d2)).snd.snd.snd.snd.fst.fst (List.map (mkV true Write_tfs) (lapseF (cOf d2) (nOf d2)).snd.snd.snd.snd.fst.snd), AV.int IntKind.i64 (lapseF (cOf d2) (nOf d2)).snd.snd.snd.snd.snd.fst, AV.bool (lapseF (cOf d2) (nOf d2)).snd.snd.snd.snd.snd.snd.fst, AV.bool (lapseF (cOf d2) (nOf d2)).snd.snd.snd.snd.snd.snd.snd]] []) fun (d12 : Int × Int × Int × List UInt8 × (Bool × List (Int × List UInt8)) × Int × Bool × Bool × Int × Int × Int × List UInt8 × (Bool × List (Int × List UInt8)) × Int × Bool × Bool) => some { pan := false, res := AV.bool (sameCF (sA d12) (sB d12)), out := [], new := [] })
                      (some { pan := false, res := AV.bool false, out := [], new := [] }))
                  (some { pan := false, res := AV.bool false, out := [], new := [] })))))
theorem cacheLapse_w (picks_x : Bool) (picks : List Int) (now : Int) : unitQ Try.prog cfg PK10 LP0 true 6 (groupA cacheLapse_sh (Tu.mk cacheLapse_fs ((picks_x, picks), now))) [] = cacheLapse_r picks_x picks now := by kernel_rfl

theorem wf8 {l : List Int} (h : ∀ d ∈ l, Tu.wf [.fi .u8] d) : ∀ v ∈ l, 0 ≤ v ∧ v < 256 := fun v hv => by
  have : (0 : Int) ≤ v ∧ v ≤ 255 := h v hv
  omega
theorem cacheLapse_yes (picks_x : Bool) (picks : List Int) (now : Int) (h : Tu.wf cacheLapse_fs ((picks_x, picks), now)) : Yes (cacheLapse_r picks_x picks now) := by
  have h8 := wf8 h.1.2
  unfold cacheLapse_r
  refine oK_fsq begunS () trivial ?_
  refine bK_iq (fun _ => yes_leaf) (fun c1 => ?_)
  have hlen : picks.length ≤ 40 := by simp only [List.length_map] at c1; omega
  have hp : pkOk ((picks_x, picks), 0) := ⟨by simp, by simp, by show picks.length ≤ 2 ^ 62; omega, h8⟩
  refine oK_msq cachePS ((picks_x, picks), 0) () hp ?_
  have hc := (cacheF_ok hp).2
  simp only
  generalize (cacheF ((picks_x, picks), 0)).2 = c at hc ⊢
  have hc1 : (dOf c).length ≤ 100000 := by omega
  generalize IntKind.i64.wrap (Int.tmod now 120) = t
  refine oK_lap c t hc1 ?_
  have hl : (dOf (lapseF c t)).length ≤ 100000 := lapseF_len hc1
  refine bK_iq (fun c2 => ?_) (fun c2 => bK_iq (fun c3 => ?_) (fun c3 => ?_))
  · refine oK_sam (lapseF c t) c hl ?_
    refine yes_of (same_of ?_)
    show normC (lapseF c t) = normC c
    rw [lapseF_keep (.inl c2)]
    rfl
  · refine oK_sam (lapseF c t) c hl ?_
    refine yes_of (same_of ?_)
    show normC (lapseF c t) = normC c
    rw [lapseF_keep (.inr c3)]
    rfl
  · have e : lapseF c t = resetF c := lapseF_over (by omega)
    refine bK_bq (fun c4 => ?_) (fun c4 => ?_)
    · refine oK_sam (lapseF c t) (0, 0, 0, [], (true, []), 0, false, true) hl ?_
      refine bK_tq (same_of ?_) ?_
      · show normC (lapseF c t) = _
        rw [e]; unfold resetF normC; rw [c4]; rfl
      refine oK_val (lapseF c t) 0 ?_
      refine bK_tq (decide_eq_true ?_) ?_
      · show validF (lapseF c t) 0 = 0
        rw [e]; rfl
      refine oK_lap (lapseF c t) (IntKind.i64.wrap (t + 50)) hl ?_
      refine oK_sam (lapseF (lapseF c t) (IntKind.i64.wrap (t + 50))) (lapseF c t) (lapseF_len hl) ?_
      refine yes_of (same_of ?_)
      show normC (lapseF (lapseF c t) (IntKind.i64.wrap (t + 50))) = normC (lapseF c t)
      rw [e, lapseF_keep (.inl rfl)]
      rfl
    · refine oK_sam (lapseF c t) (0, 0, 0, [], (true, []), 0, false, decide (0 < ((List.map (mkV true Write_tfs) (dOf c)).length : Int))) hl ?_
      refine bK_tq (same_of ?_) ?_
      · show normC (lapseF c t) = _
        rw [e]; unfold resetF normC; rw [c4, List.length_map]; rfl
      refine oK_val (lapseF c t) 0 ?_
      refine bK_tq (decide_eq_true ?_) ?_
      · show validF (lapseF c t) 0 = 0
        rw [e]; rfl
      refine oK_lap (lapseF c t) (IntKind.i64.wrap (t + 50)) hl ?_
      refine oK_sam (lapseF (lapseF c t) (IntKind.i64.wrap (t + 50))) (lapseF c t) (lapseF_len hl) ?_
      refine yes_of (same_of ?_)
      show normC (lapseF (lapseF c t) (IntKind.i64.wrap (t + 50))) = normC (lapseF c t)
      rw [e, lapseF_keep (.inl rfl)]
      rfl

end Go.Proofs.Ytlhnpfpdjlcakaa
