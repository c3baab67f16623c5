/- A part of the proof: contracts of functions. -/
import Derived.Test.YtmjgiplgghmapaaS
import Derived.Test.YtmjgiplgghmapaaAbAny

set_option linter.unusedVariables false
set_option linter.unusedSimpArgs false
set_option maxRecDepth 100000
namespace Go.Proofs.Ytmjgiplgghmapaa
open Go Go.Ab
set_option maxHeartbeats 8000000
noncomputable def Lw1 : PKs := PKs0.add 9 begunS.pk
noncomputable def Lw2 : PKs := Lw1.add 14 takeS.pk
noncomputable def Lw3 : PKs := Lw2.add 16 puS.pk
noncomputable def Lw4 : PKs := Lw3.add 13 spS.pk
noncomputable def Lw5 : PKs := Lw4.add 18 ssS.pk
theorem Lw1_ok : PKsOk Try.prog Lw1 := PKsOk.anyF PKs0_ok 9 begunS begunO
theorem Lw2_ok : PKsOk Try.prog Lw2 := PKsOk.anyF Lw1_ok 14 takeS takeO
theorem Lw3_ok : PKsOk Try.prog Lw3 := PKsOk.anyF Lw2_ok 16 puS puO
theorem Lw4_ok : PKsOk Try.prog Lw4 := PKsOk.anyF Lw3_ok 13 spS spO
theorem Lw5_ok : PKsOk Try.prog Lw5 := PKsOk.anyF Lw4_ok 18 ssS ssO
abbrev opsBack_id : Nat := 4
abbrev opsBack_sh : Shp := [none, none]
abbrev opsBack_fs : List Lf := [.fl false [.fi .u8], .fi .u16]
abbrev opsBack_rsh : Shp := [none]
abbrev opsBack_rfs : List Lf := [.fb]
noncomputable def opsBack_r (b_x : Bool) (b : List Int) (cut : Int) : Option Ret :=
  oK (begunS.dec [] []) fun (d0 : PUnit) =>
  bK (decide (200 < (↑(List.map (mkV false [Lf.fi IntKind.u8]) b).length : Int))) (some { pan := false, res := AV.bool true, out := [], new := [] })
    (oK (takeS.dec [AV.slc b_x (List.map (mkV false [Lf.fi IntKind.u8]) b)] []) fun (d1 : Bool × List Int) =>
      oK (puS.dec [AV.slc (tsF d1).isEmpty (List.map (mkV true [Lf.fi IntKind.i64, Lf.fi IntKind.i64, Lf.fi IntKind.i64, Lf.fi IntKind.i64, Lf.fi IntKind.i64, Lf.fi IntKind.i64, Lf.fi IntKind.i64, Lf.fs, Lf.fl false I1_tfs]) (tsF d1))] []) fun (d2 : Bool × List (Int × Int × Int × Int × Int × Int × Int × List UInt8 × Bool × List Int)) =>
        oK (takeS.dec [AV.slc (puF d2.snd).isEmpty (List.map (mkV false [Lf.fi IntKind.u8]) (puF d2.snd))] []) fun (d3 : Bool × List Int) =>
          oK (spS.dec [AV.slc (tsF d3).isEmpty (List.map (mkV true [Lf.fi IntKind.i64, Lf.fi IntKind.i64, Lf.fi IntKind.i64, Lf.fi IntKind.i64, Lf.fi IntKind.i64, Lf.fi IntKind.i64, Lf.fi IntKind.i64, Lf.fs, Lf.fl false I1_tfs]) (tsF d3)), AV.slc (tsF d1).isEmpty (List.map (mkV true [Lf.fi IntKind.i64, Lf.fi IntKind.i64, Lf.fi IntKind.i64, Lf.fi IntKind.i64, Lf.fi IntKind.i64, Lf.fi IntKind.i64, Lf.fi IntKind.i64, Lf.fs, Lf.fl false I1_tfs]) (tsF d1))] []) fun (d4 : (Bool × List (Int × Int × Int × Int × Int × Int × Int × List UInt8 × Bool × List Int)) × Bool × List (Int × Int × Int × Int × Int × Int × Int × List UInt8 × Bool × List Int)) =>
            bK (!spQ d4.fst.snd d4.snd.snd) (some { pan := false, res := AV.bool false, out := [], new := [] })
              (bK (decide ((↑(List.map (mkV false [Lf.fi IntKind.u8]) (puF d2.snd)).length : Int) = 0)) (some { pan := false, res := AV.bool (decide ((↑(List.map (mkV true [Lf.fi IntKind.i64, Lf.fi IntKind.i64, Lf.fi IntKind.i64, Lf.fi IntKind.i64, Lf.fi IntKind.i64, Lf.fi IntKind.i64, Lf.fi IntKind.i64, Lf.fs, Lf.fl false I1_tfs]) (tsF d1)).length : Int) = 0)), out := [], new := [] })
                (bK (decide ((↑(List.map (mkV false [Lf.fi IntKind.u8]) (puF d2.snd)).length : Int) = 0)) none
                  (bK ((List.map (mkV false [Lf.fi IntKind.u8]) (puF d2.snd)).all fun (y : AV) => decide (y.cells.length = 1))
                    (bK (decide (0 ≤ (IntKind.i64.wrap cut).tmod (↑(List.map (mkV false [Lf.fi IntKind.u8]) (puF d2.snd)).length : Int)))
                      (bK (decide (0 ≤ ((IntKind.i64.wrap cut).tmod (↑(List.map (mkV false [Lf.fi IntKind.u8]) (puF d2.snd)).length : Int)).toNat ∧ ((IntKind.i64.wrap cut).tmod (↑(List.map (mkV false [Lf.fi IntKind.u8]) (puF d2.snd)).length : Int)).toNat ≤ (List.map (mkV false [Lf.fi IntKind.u8]) (puF d2.snd)).length))
                        (oK (takeS.dec [AV.slc ((puF d2.snd).isEmpty && decide (((IntKind.i64.wrap cut).tmod (↑(List.map (mkV false [Lf.fi IntKind.u8]) (puF d2.snd)).length : Int)).toNat = (List.map (mkV false [Lf.fi IntKind.u8]) (puF d2.snd)).length)) (List.take (((IntKind.i64.wrap cut).tmod (↑(List.map (mkV false [Lf.fi IntKind.u8]) (puF d2.snd)).length : Int)).toNat - 0) (List.drop 0 (List.map (mkV false [Lf.fi IntKind.u8]) (puF d2.snd))))] []) fun (d5 : Bool × List Int) =>
                          bK (decide ((↑(List.map (mkV true [Lf.fi IntKind.i64, Lf.fi IntKind.i64, Lf.fi IntKind.i64, Lf.fi IntKind.i64, Lf.fi IntKind.i64, Lf.fi IntKind.i64, Lf.fi IntKind.i64, Lf.fs, Lf.fl false I1_tfs]) (tsF d5)).length : Int) < (↑(List.map (mkV true [Lf.fi IntKind.i64, Lf.fi IntKind.i64, Lf.fi IntKind.i64, Lf.fi IntKind.i64, Lf.fi IntKind.i64, Lf.fi IntKind.i64, Lf.fi IntKind.i64, Lf.fs, Lf.fl false I1_tfs]) (tsF d1)).length : Int)))
                            (bK ((List.map (mkV true [Lf.fi IntKind.i64, Lf.fi IntKind.i64, Lf.fi IntKind.i64, Lf.fi IntKind.i64, Lf.fi IntKind.i64, Lf.fi IntKind.i64, Lf.fi IntKind.i64, Lf.fs, Lf.fl false I1_tfs]) (tsF d1)).all fun (y : AV) => decide (y.cells.length = 9))
                              (bK (decide (0 ≤ (↑(List.map (mkV true [Lf.fi IntKind.i64, Lf.fi IntKind.i64, Lf.fi IntKind.i64, Lf.fi IntKind.i64, Lf.fi IntKind.i64, Lf.fi IntKind.i64, Lf.fi IntKind.i64, Lf.fs, Lf.fl false I1_tfs]) (tsF d5)).length : Int).toNat ∧ (↑(List.map (mkV true [Lf.fi IntKind.i64, Lf.fi IntKind.i64, Lf.fi IntKind.i64, Lf.fi IntKind.i64, Lf.fi IntKind.i64, Lf.fi IntKind.i64, Lf.fi IntKind.i64, Lf.fs, Lf.fl false I1_tfs]) (tsF d5)).length : Int).toNat ≤ (List.map (mkV true [Lf.fi IntKind.i64, Lf.fi IntKind.i64, Lf.fi IntKind.i64, Lf.fi IntKind.i64, Lf.fi IntKind.i64, Lf.fi IntKind.i64, Lf.fi IntKind.i64, Lf.fs, Lf.fl false I1_tfs]) (tsF d1)).length))
                                (oK (spS.dec [AV.slc (tsF d5).isEmpty (List.map (mkV true [Lf.fi IntKind.i64, Lf.fi IntKind.i64, Lf.fi IntKind.i64, Lf.fi IntKind.i64, Lf.fi IntKind.i64, Lf.fi IntKind.i64, Lf.fi IntKind.i64, Lf.fs, Lf.fl false I1_tfs]) (tsF d5)), AV.slc ((tsF d1).isEmpty && decide ((↑(List.map (mkV true [Lf.fi IntKind.i64, Lf.fi IntKind.i64, Lf.fi IntKind.i64, Lf.fi IntKind.i64, Lf.fi IntKind.i64, Lf.fi IntKind.i64, Lf.fi IntKind.i64, Lf.fs, Lf.fl false I1_tfs]) (tsF d5)).length : Int).toNat = (List.map (mkV true [Lf.fi IntKind.i64, Lf.fi IntKind.i64, Lf.fi IntKind.i64, Lf.fi IntKind.i64, Lf.fi IntKind.i64, Lf.fi IntKind.i64, Lf.fi IntKind.i64, Lf.fs, Lf.fl false I1_tfs]) (tsF d1)).length)) (List.take ((↑(List.map (mkV true [Lf.fi IntKind.i64, Lf.fi IntKind.i64, Lf.fi IntKind.i64, Lf.fi IntKind.i64, Lf.fi IntKind.i64, Lf.fi IntKind.i64, Lf.fi IntKind.i64, Lf.fs, Lf.fl false I1_tfs]) (tsF d5)).length : Int).toNat - 0) (List.drop 0 (List.map (mkV true [Lf.fi IntKind.i64, Lf.fi IntKind.i64, Lf.fi IntKind.i64, Lf.fi IntKind.i64, Lf.fi IntKind.i64, Lf.fi IntKind.i64, Lf.fi IntKind.i64, Lf.fs, Lf.fl false I1_tfs]) (tsF d1))))] []) fun (d6 : (Bool × List (Int × Int × Int × Int × Int × Int × Int × List UInt8 × Bool × List Int)) × Bool × List (Int × Int × Int × Int × Int × Int × Int × List UInt8 × Bool × List Int)) => some { pan := false, res := AV.bool (spQ d6.fst.snd d6.snd.snd), out := [], new := [] }) none)
                              none)
                            (some { pan := false, res := AV.bool false, out := [], new := [] }))
                        none)
                      none)
                    none))))
theorem opsBack_w (b_x : Bool) (b : List Int) (cut : Int) : unitQ Try.prog cfg Lw5 LP0 true 4 (groupA opsBack_sh (Tu.mk opsBack_fs ((b_x, b), cut))) [] = opsBack_r b_x b cut := by kernel_rfl

theorem wf8b {l : List Int} (h : ∀ d ∈ l, Tu.wf [.fi .u8] d) : byt l := fun v hv => by
  have : (0 : Int) ≤ v ∧ v ≤ 255 := h v hv
  omega
theorem pqs_byt (l : List Step_T) : byt (l.flatMap ptQ) := fun v hv => by
  obtain ⟨s, _, h⟩ := List.mem_flatMap.1 hv
  exact ptQ_byt s v h
theorem pqs_len : ∀ (l : List Step_T), (∀ s ∈ l, Canon s) → (l.flatMap ptQ).length ≤ 300 * l.length
  | [], _ => Nat.le_refl _
  | s :: l, h => by
    have h1 := ptQ_len2 s (h s (by simp)).g
    have h2 := pqs_len l fun s hs => h s (List.mem_cons_of_mem _ hs)
    rw [List.flatMap_cons, List.length_append, List.length_cons]
    omega
theorem ts_all (x : Bool) (l : List Step_T) (h : ∀ s ∈ l, Canon s) : tsF (x, l.flatMap ptQ) = l := by
  have := ts_app x l [] h
  rw [ts_nil, List.append_nil, List.append_nil] at this
  exact this
theorem gA_le {l : List Step_T} (h : ∀ s ∈ l, Canon s) : ∀ s ∈ l, (gA s).length ≤ 100000 := fun s hs => Nat.le_trans (h s hs).g (by decide)
theorem opsBack_yes (b_x : Bool) (b : List Int) (cut : Int) (h : Tu.wf opsBack_fs ((b_x, b), cut)) : Yes (opsBack_r b_x b cut) := by
  have hb : byt b := wf8b h.1.2
  have hcut : (0 : Int) ≤ cut ∧ cut ≤ 65535 := h.2
  unfold opsBack_r
  refine oK_fsq (Q := Yes) begunS () trivial ?_
  refine bK_iq (Q := Yes) (fun _ => yes_leaf) (fun c1 => ?_)
  rw [List.length_map] at c1
  refine oK_fsq (Q := Yes) takeS (b_x, b) ⟨hb, by show b.length ≤ 100000; omega⟩ ?_
  have hcan : ∀ s ∈ tsF (b_x, b), Canon s := ts_canon b_x _ b hb
  have hlen : (tsF (b_x, b)).length ≤ b.length := tsN_len b_x b.length b
  generalize tsF (b_x, b) = l at hcan hlen ⊢
  refine oK_fsq (Q := Yes) puS (l.isEmpty, l) (by show l.length ≤ 300; omega) ?_
  dsimp only
  rw [puF_eq hcan]
  have hcl := pqs_len l hcan
  have hcb := pqs_byt l
  have hct := fun x => ts_all x l hcan
  have hcc := fun x k => ts_cut x l k hcan
  have hc0 : (l.flatMap ptQ).length = 0 → l.length = 0 := fun h0 => by
    cases l with
    | nil => rfl
    | cons s t => rw [List.flatMap_cons, ptQ_eq] at h0; simp at h0
  generalize l.flatMap ptQ = c at hcl hcb hct hcc hc0 ⊢
  refine oK_fsq (Q := Yes) takeS (c.isEmpty, c) ⟨hcb, by show c.length ≤ 100000; omega⟩ ?_
  rw [hct]
  refine oK_fsq (Q := Yes) spS ((l.isEmpty, l), (l.isEmpty, l)) ⟨by show l.length ≤ 100000; omega, gA_le hcan⟩ ?_
  refine bK_fq (Q := Yes) (by show (!decide (l.map sK = l.map sK)) = false; simp) ?_
  simp only [List.length_map]
  refine bK_iq (Q := Yes) (fun c2 => ?_) (fun c2 => ?_)
  · rw [decide_eq_true (show (l.length : Int) = 0 by have := hc0 (by omega); omega)]
    exact yes_leaf
  · refine bK_fq (Q := Yes) (decide_eq_false c2) ?_
    rw [w64 (n := cut) (by omega) (by omega)]
    have k1 := Int.tmod_nonneg (c.length : Int) hcut.1
    have k2 := Int.tmod_lt_of_pos cut (show (0 : Int) < (c.length : Int) by omega)
    generalize cut.tmod (c.length : Int) = kk at k1 k2
    obtain ⟨k, rfl⟩ := Int.eq_ofNat_of_zero_le k1
    rw [Int.toNat_natCast]
    refine bK_tq (Q := Yes) (allB c) (bK_tq (Q := Yes) (decide_eq_true (by omega)) (bK_tq (Q := Yes) (decide_eq_true (by omega)) ?_))
    rw [List.drop_zero, Nat.sub_zero, ← List.map_take]
    refine oK_fsq (Q := Yes) takeS (c.isEmpty && decide (k = c.length), c.take k) ⟨byt_take hcb k, by show (c.take k).length ≤ 100000; rw [List.length_take]; omega⟩ ?_
    obtain ⟨j, hj, hje⟩ := hcc (c.isEmpty && decide (k = c.length)) k (by omega)
    rw [hje]
    have hjl : (l.take j).length = j := by rw [List.length_take]; omega
    rw [hjl, Int.toNat_natCast]
    refine bK_tq (Q := Yes) (decide_eq_true (by omega)) (bK_tq (Q := Yes) (by rw [List.all_eq_true]; intro y hy; obtain ⟨v, _, rfl⟩ := List.mem_map.1 hy; rfl) (bK_tq (Q := Yes) (decide_eq_true (by omega)) ?_))
    rw [List.drop_zero, Nat.sub_zero, ← List.map_take]
    refine oK_fsq (Q := Yes) spS (((l.take j).isEmpty, l.take j), (l.isEmpty && decide (j = l.length), l.take j)) ⟨by show (l.take j).length ≤ 100000; omega, fun s hs => gA_le hcan s (List.mem_of_mem_take hs)⟩ ?_
    have : spQ (l.take j) (l.take j) = true := decide_eq_true rfl
    dsimp only
    rw [this]
    exact yes_leaf

end Go.Proofs.Ytmjgiplgghmapaa
