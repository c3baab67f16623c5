/- A part of the proof: contracts of functions. -/
import Derived.Test.YtmjgiplgghmapaaA
import Derived.Test.YtmjgiplgghmapaaAbAny

set_option linter.unusedVariables false
set_option linter.unusedSimpArgs false
set_option maxRecDepth 100000
namespace Go.Proofs.Ytmjgiplgghmapaa
open Go Go.Ab
set_option maxHeartbeats 8000000
abbrev RdD : Type := (Bool × List Int) × Int
def nmA (d : RdD) : List AV × List Blk := ([.ptr outBase 0 0 0, .int .i64 d.2], [boxB [.slc d.1.1 (d.1.2.map (mkV false [.fi .u8]))]])
theorem nmA_inj (d d' : RdD) (h : nmA d = nmA d') : d = d' := by
  obtain ⟨⟨x, b⟩, n⟩ := d
  obtain ⟨⟨x', b'⟩, n'⟩ := d'
  simp only [nmA, boxB, List.cons.injEq, Prod.mk.injEq, AV.slc.injEq, AV.int.injEq, Blk.mk.injEq, and_true, true_and] at h
  obtain ⟨h1, h3, h4⟩ := h
  rw [h1, h3, map_inj (fs := [.fi .u8]) rfl h4]
def nmO (d : RdD) : Bool := decide (d.2 ≤ (d.1.2.length : Int))
def nmV (d : RdD) : Int := tkF (d.1.2.take d.2.toNat)
def nmB (d : RdD) : List Int := d.1.2.drop d.2.toNat
def nmPre (d : RdD) : Prop := (1 ≤ d.2 ∧ d.2 ≤ 7) ∧ byt d.1.2
noncomputable def nmR (d : RdD) : Alt Ret := .ite (nmO d) (.leaf { pan := false, res := .int .i64 (nmV d), out := [boxB [.slc d.1.1 ((nmB d).map (mkV false [.fi .u8]))]], new := [] }) (.leaf { pan := true, res := .iface 93 (.agg []), out := [boxB [.slc d.1.1 (d.1.2.map (mkV false [.fi .u8]))]], new := [] })
noncomputable def nmP : PK := PK.of nmA nmPre nmR
abbrev nm_id : Nat := 32
abbrev nm_sh : Shp := [none]
abbrev nm_fs : List Lf := [.fi .i64]
abbrev nm_bs : List Lf := [.fl false [.fi .u8]]
abbrev nm_rsh : Shp := [none]
abbrev nm_rfs : List Lf := [.fi .i64]
noncomputable def nm_r (r_b_x : Bool) (r_b : List Int) (n : Int) : Option Ret :=
  oK (takeBS.dec [AV.slc r_b_x (List.map (mkV false [Lf.fi IntKind.u8]) r_b), AV.int IntKind.i64 n] []) fun (d0 : (Bool × List Int) × Int) => bK (!(takeF d0).snd) (some { pan := true, res := AV.iface 93 (AV.agg []), out := [{ v := 0, k := BK.box, fz := false, sz := 0, es := [AV.slc r_b_x (List.map (mkV false [Lf.fi IntKind.u8]) r_b)] }], new := [] }) (bK (decide (0 ≤ n)) (bK ((List.map (mkV false [Lf.fi IntKind.u8]) r_b).all fun (y : AV) => decide (y.cells.length = 1)) (bK (decide (n.toNat ≤ (List.map (mkV false [Lf.fi IntKind.u8]) r_b).length ∧ (List.map (mkV false [Lf.fi IntKind.u8]) r_b).length ≤ (List.map (mkV false [Lf.fi IntKind.u8]) r_b).length)) (some { pan := false, res := AV.int IntKind.i64 (takeF d0).fst, out := [{ v := 0, k := BK.box, fz := false, sz := 0, es := [AV.slc (r_b_x && decide ((List.map (mkV false [Lf.fi IntKind.u8]) r_b).length = (List.map (mkV false [Lf.fi IntKind.u8]) r_b).length)) (List.take ((List.map (mkV false [Lf.fi IntKind.u8]) r_b).length - n.toNat) (List.drop n.toNat (List.map (mkV false [Lf.fi IntKind.u8]) r_b)))] }], new := [] }) none) none) none)
theorem nm_w (r_b_x : Bool) (r_b : List Int) (n : Int) : unitQ Try.prog cfg PK9 LP0 false 32 (.ptr outBase 0 0 0 :: groupA nm_sh (Tu.mk nm_fs n)) [boxB (Tu.mk nm_bs (r_b_x, r_b))] = nm_r r_b_x r_b n := by kernel_rfl

theorem nmOk (d : RdD) (h : nmPre d) : CallOk Try.prog 32 (nmA d).1 (nmA d).2 (nmR d).val := by
  obtain ⟨⟨x, b⟩, n⟩ := d
  obtain ⟨⟨h1, h2⟩, hb⟩ := h
  dsimp only at h1 h2 hb
  obtain ⟨n, rfl⟩ := Int.eq_ofNat_of_zero_le (show 0 ≤ n by omega)
  refine CallOk.unit (fnOk PK9_ok 21) rfl fLoops_none (o := false) (by show 1 ≤ 1000; decide) ((nm_w x b n).trans ?_)
  have et : takeF ((x, b), (n : Int)) = takeL b n := rfl
  unfold nm_r
  refine oK_fsq (Q := fun z => z = _) takeBS ((x, b), (n : Int)) hb ?_
  rw [et]
  have e1 : nmO ((x, b), (n : Int)) = decide ((n : Int) ≤ (b.length : Int)) := rfl
  unfold nmR
  rw [e1]
  by_cases h : n ≤ b.length
  · rw [takeL_yes ⟨by omega, by omega, by omega⟩, cutB, flX, show decide ((n : Int) ≤ (b.length : Int)) = true from decide_eq_true (by omega)]
    refine bK_fq (Q := fun z => z = _) rfl (bK_tq (Q := fun z => z = _) (decide_eq_true (by omega)) (bK_tq (Q := fun z => z = _) (allB b) (bK_tq (Q := fun z => z = _) (by simp; omega) ?_)))
    have e2 : nmB ((x, b), (n : Int)) = b.drop n := by show b.drop (n : Int).toNat = _; rw [Int.toNat_natCast]
    show _ = some (Ret.mk false (.int .i64 (nmV ((x, b), (n : Int)))) [boxB [.slc x ((nmB ((x, b), (n : Int))).map (mkV false [.fi .u8]))]] [])
    rw [e2]
    rfl
  · rw [takeL_no (by omega), show decide ((n : Int) ≤ (b.length : Int)) = false from decide_eq_false (by omega)]
    exact bK_tq (Q := fun z => z = _) rfl rfl
def txA (d : Bool × List Int) : List AV × List Blk := ([.ptr outBase 0 0 0], [boxB [.slc d.1 (d.2.map (mkV false [.fi .u8]))]])
theorem txA_inj (d d' : Bool × List Int) (h : txA d = txA d') : d = d' := by
  obtain ⟨x, b⟩ := d
  obtain ⟨x', b'⟩ := d'
  simp only [txA, boxB, List.cons.injEq, Prod.mk.injEq, AV.slc.injEq, Blk.mk.injEq, and_true, true_and] at h
  rw [h.1, map_inj (fs := [.fi .u8]) rfl h.2]
def txO (d : Bool × List Int) : Bool := (ttL d.2).2.2
def txV (d : Bool × List Int) : List UInt8 := (ttL d.2).1
def txB (d : Bool × List Int) : List Int := d.2.drop (ttL d.2).2.1.toNat
def txPre (d : Bool × List Int) : Prop := byt d.2
noncomputable def txR (d : Bool × List Int) : Alt Ret := .ite (txO d) (.leaf { pan := false, res := .str (txV d), out := [boxB [.slc d.1 ((txB d).map (mkV false [.fi .u8]))]], new := [] }) (.leaf { pan := true, res := .iface 93 (.agg []), out := [boxB [.slc d.1 (d.2.map (mkV false [.fi .u8]))]], new := [] })
noncomputable def txP : PK := PK.of txA txPre txR
abbrev tx_id : Nat := 50
abbrev tx_sh : Shp := []
abbrev tx_fs : List Lf := []
abbrev tx_bs : List Lf := [.fl false [.fi .u8]]
abbrev tx_rsh : Shp := [none]
abbrev tx_rfs : List Lf := [.fs]
noncomputable def tx_r (r_b_x : Bool) (r_b : List Int) : Option Ret :=
  oK (takeTS.dec [AV.slc r_b_x (List.map (mkV false [Lf.fi IntKind.u8]) r_b)] []) fun (d0 : Bool × List Int) => bK (!(ttF d0).snd.snd) (some { pan := true, res := AV.iface 93 (AV.agg []), out := [{ v := 0, k := BK.box, fz := false, sz := 0, es := [AV.slc r_b_x (List.map (mkV false [Lf.fi IntKind.u8]) r_b)] }], new := [] }) (bK (decide (0 ≤ (ttF d0).snd.fst)) (bK ((List.map (mkV false [Lf.fi IntKind.u8]) r_b).all fun (y : AV) => decide (y.cells.length = 1)) (bK (decide (Int.toNat (ttF d0).snd.fst ≤ (List.map (mkV false [Lf.fi IntKind.u8]) r_b).length ∧ (List.map (mkV false [Lf.fi IntKind.u8]) r_b).length ≤ (List.map (mkV false [Lf.fi IntKind.u8]) r_b).length)) (some { pan := false, res := AV.str (ttF d0).fst, out := [{ v := 0, k := BK.box, fz := false, sz := 0, es := [AV.slc (r_b_x && decide ((List.map (mkV false [Lf.fi IntKind.u8]) r_b).length = (List.map (mkV false [Lf.fi IntKind.u8]) r_b).length)) (List.take ((List.map (mkV false [Lf.fi IntKind.u8]) r_b).length - Int.toNat (ttF d0).snd.fst) (List.drop (Int.toNat (ttF d0).snd.fst) (List.map (mkV false [Lf.fi IntKind.u8]) r_b)))] }], new := [] }) none) none) none)
theorem tx_w (r_b_x : Bool) (r_b : List Int) : unitQ Try.prog cfg PK9 LP0 false 50 (.ptr outBase 0 0 0 :: groupA tx_sh (Tu.mk tx_fs ())) [boxB (Tu.mk tx_bs (r_b_x, r_b))] = tx_r r_b_x r_b := by kernel_rfl

theorem tt_le {b : List Int} (hb : byt b) (h : (ttL b).2.2 = true) : 0 ≤ (ttL b).2.1 ∧ (ttL b).2.1.toNat ≤ b.length := by
  have hg := byt_get hb
  by_cases hc : 1 ≤ b.length ∧ b.getD 0 0 + 1 ≤ (b.length : Int)
  · rw [ttL_yes hc]
    exact ⟨by show 0 ≤ b.getD 0 0 + 1; omega, by show (b.getD 0 0 + 1).toNat ≤ b.length; omega⟩
  · rw [ttL_no hc] at h; cases h
theorem txOk (d : Bool × List Int) (h : txPre d) : CallOk Try.prog 50 (txA d).1 (txA d).2 (txR d).val := by
  obtain ⟨x, b⟩ := d
  have hb : byt b := h
  refine CallOk.unit (fnOk PK9_ok 21) rfl fLoops_none (o := false) (by show 1 ≤ 1000; decide) ((tx_w x b).trans ?_)
  have et : ttF (x, b) = ttL b := rfl
  unfold tx_r
  refine oK_fsq (Q := fun z => z = _) takeTS (x, b) hb ?_
  rw [et]
  have e1 : txO (x, b) = (ttL b).2.2 := rfl
  unfold txR
  rw [e1]
  cases hc : (ttL b).2.2 with
  | true =>
    obtain ⟨k1, k2⟩ := tt_le hb hc
    refine bK_fq (Q := fun z => z = _) rfl (bK_tq (Q := fun z => z = _) (decide_eq_true k1) (bK_tq (Q := fun z => z = _) (allB b) (bK_tq (Q := fun z => z = _) (by simp; omega) ?_)))
    obtain ⟨n, hn⟩ := Int.eq_ofNat_of_zero_le k1
    rw [hn, cutB, flX]
    have e2 : txB (x, b) = b.drop n := by show b.drop (ttL b).2.1.toNat = _; rw [hn, Int.toNat_natCast]
    show _ = some (Ret.mk false (.str (txV (x, b))) [boxB [.slc x ((txB (x, b)).map (mkV false [.fi .u8]))]] [])
    rw [e2]
    rfl
  | false => exact bK_tq (Q := fun z => z = _) rfl rfl
def gnA (d : GnD) : List AV × List Blk := ([.ptr outBase 0 0 0, .int .i64 d.2.1, .int .i64 d.2.2], [boxB [.slc d.1.1 (d.1.2.map (mkV false [.fi .u8]))]])
theorem gnA_inj (d d' : GnD) (h : gnA d = gnA d') : d = d' := by
  obtain ⟨⟨x, b⟩, m, n⟩ := d
  obtain ⟨⟨x', b'⟩, m', n'⟩ := d'
  simp only [gnA, boxB, List.cons.injEq, Prod.mk.injEq, AV.slc.injEq, AV.int.injEq, Blk.mk.injEq, and_true, true_and] at h
  obtain ⟨⟨h3, h4⟩, h1, h2⟩ := h
  rw [h1, h3, h4, map_inj (fs := [.fi .u8]) rfl h2]
noncomputable def gnsP : PK := PK.of gnA gnPre fun d => .ite (gnO d) (.leaf { pan := false, res := .slc (noI (gnL d)) ((gnL d).map (mkV false [.fi .i64])), out := [boxB [.slc d.1.1 ((gnB d).map (mkV false [.fi .u8]))]], new := [] }) (.leaf { pan := true, res := .iface 93 (.agg []), out := [boxB [.slc d.1.1 ((gnB d).map (mkV false [.fi .u8]))]], new := [] })
theorem gnsO (d : GnD) (h : gnPre d) : CallOk Try.prog 49 (gnA d).1 (gnA d).2 (Alt.val (.ite (gnO d) (.leaf { pan := false, res := .slc (noI (gnL d)) ((gnL d).map (mkV false [.fi .i64])), out := [boxB [.slc d.1.1 ((gnB d).map (mkV false [.fi .u8]))]], new := [] }) (.leaf { pan := true, res := .iface 93 (.agg []), out := [boxB [.slc d.1.1 ((gnB d).map (mkV false [.fi .u8]))]], new := [] }))) := by
  obtain ⟨⟨x, b⟩, m, n⟩ := d
  refine CallOk.unit (fnOk PK9_ok 21) rfl gnP_ok.loops (o := false) (by show 1 ≤ 1000; decide) ((gns_w x b m n).trans ?_)
  unfold gns_r
  refine oK_lpf (Q := fun z => z = _) gnHd_inj ((x, b), m, n) h rfl ?_
  dsimp only
  generalize gnO ((x, b), m, n) = o
  generalize gnL ((x, b), m, n) = l
  generalize gnB ((x, b), m, n) = r
  cases o with
  | true =>
    refine bK_tq (Q := fun z => z = _) rfl ?_
    cases l with
    | nil => exact bK_tq (Q := fun z => z = _) rfl rfl
    | cons y t =>
      refine bK_fq (Q := fun z => z = _) rfl (bK_tq (Q := fun z => z = _) (by simp) ?_)
      rw [List.drop_zero, List.take_length]
      rfl
  | false =>
    refine bK_fq (Q := fun z => z = _) rfl ?_
    cases l with
    | nil => exact bK_tq (Q := fun z => z = _) rfl rfl
    | cons y t => exact bK_fq (Q := fun z => z = _) rfl rfl
noncomputable def Sp1 : PKs := PKs0.add 49 gnsP
noncomputable def Sp2 : PKs := Sp1.add 32 nmP
noncomputable def Sp3 : PKs := Sp2.add 50 txP
theorem Sp1_ok : PKsOk Try.prog Sp1 := PKsOk.any PKs0_ok 49 gnA gnPre _ gnsO
theorem Sp2_ok : PKsOk Try.prog Sp2 := PKsOk.any Sp1_ok 32 nmA nmPre nmR nmOk
theorem Sp3_ok : PKsOk Try.prog Sp3 := PKsOk.any Sp2_ok 50 txA txPre txR txOk
abbrev stp_id : Nat := 33
abbrev stp_sh : Shp := [none]
abbrev stp_fs : List Lf := [.fi .i64]
abbrev stp_bs : List Lf := [.fl false [.fi .u8]]
abbrev stp_rsh : Shp := [some 9]
abbrev stp_rfs : List Lf := [.fi .i64, .fi .i64, .fi .i64, .fi .i64, .fi .i64, .fi .i64, .fi .i64, .fs, .fl false [.fi .i64]]
noncomputable def stp_r (r_b_x : Bool) (r_b : List Int) (kind : Int) : Option Ret :=
  bK (decide (kind = 1)) (oK (nmP.dec [AV.ptr 1000000 0 0 0, AV.int IntKind.i64 2] [{ v := 0, k := BK.box, fz := false, sz := 0, es := [AV.slc r_b_x (List.map (mkV false [Lf.fi IntKind.u8]) r_b)] }]) fun (d0 : (Bool × List Int) × Int) => bK (nmO d0) (oK (gnsP.dec [AV.ptr 1000000 0 0 0, AV.int IntKind.i64 4, AV.int IntKind.i64 2] [{ v := 0, k := BK.box, fz := false, sz := 0, es := [AV.slc d0.fst.fst (List.map (mkV false [Lf.fi IntKind.u8]) (nmB d0))] }]) fun (d1 : (Bool × List Int) × Int × Int) => bK (gnO d1) (some { pan := false, res := AV.agg [AV.int IntKind.i64 kind, AV.int IntKind.i64 0, AV.int IntKind.i64 (nmV d0), AV.int IntKind.i64 0, AV.int IntKind.i64 0, AV.int IntKind.i64 0, AV.int IntKind.i64 0, AV.str [], AV.slc (noI (gnL d1)) (List.map (mkV false [Lf.fi IntKind.i64]) (gnL d1))], out := [{ v := 0, k := BK.box, fz := false, sz := 0, es := [AV.slc d1.fst.fst (List.map (mkV false [Lf.fi IntKind.u8]) (gnB d1))] }], new := [] }) (some { pan := true, res := AV.iface 93 (AV.agg []), out := [{ v := 0, k := BK.box, fz := false, sz := 0, es := [AV.slc d1.fst.fst (List.map (mkV false [Lf.fi IntKind.u8]) (gnB d1))] }], new := [] })) (some { pan := true, res := AV.iface 93 (AV.agg []), out := [{ v := 0, k := BK.box, fz := false, sz := 0, es := [AV.slc d0.fst.fst (List.map (mkV false [Lf.fi IntKind.u8]) d0.fst.snd)] }], new := [] }))
  (bK (decide (kind = 2)) (oK (nmP.dec [AV.ptr 1000000 0 0 0, AV.int IntKind.i64 1] [{ v := 0, k := BK.box, fz := false, sz := 0, es := [AV.slc r_b_x (List.map (mkV false [Lf.fi IntKind.u8]) r_b)] }]) fun (d2 : (Bool × List Int) × Int) => bK (nmO d2) (some { pan := false, res := AV.agg [AV.int IntKind.i64 kind, AV.int IntKind.i64 (nmV d2), AV.int IntKind.i64 0, AV.int IntKind.i64 0, AV.int IntKind.i64 0, AV.int IntKind.i64 0, AV.int IntKind.i64 0, AV.str [], AV.slc true []], out := [{ v := 0, k := BK.box, fz := false, sz := 0, es := [AV.slc d2.fst.fst (List.map (mkV false [Lf.fi IntKind.u8]) (nmB d2))] }], new := [] }) (some { pan := true, res := AV.iface 93 (AV.agg []), out := [{ v := 0, k := BK.box, fz := false, sz := 0, es := [AV.slc d2.fst.fst (List.map (mkV false [Lf.fi IntKind.u8]) d2.fst.snd)] }], new := [] }))
    (bK (decide (kind = 3)) (oK (nmP.dec [AV.ptr 1000000 0 0 0, AV.int IntKind.i64 1] [{ v := 0, k := BK.box, fz := false, sz := 0, es := [AV.slc r_b_x (List.map (mkV false [Lf.fi IntKind.u8]) r_b)] }]) fun (d3 : (Bool × List Int) × Int) => bK (nmO d3) (oK (txP.dec [AV.ptr 1000000 0 0 0] [{ v := 0, k := BK.box, fz := false, sz := 0, es := [AV.slc d3.fst.fst (List.map (mkV false [Lf.fi IntKind.u8]) (nmB d3))] }]) fun (d4 : Bool × List Int) => bK (txO d4) (some { pan := false, res := AV.agg [AV.int IntKind.i64 kind, AV.int IntKind.i64 (nmV d3), AV.int IntKind.i64 0, AV.int IntKind.i64 0, AV.int IntKind.i64 0, AV.int IntKind.i64 0, AV.int IntKind.i64 0, AV.str (txV d4), AV.slc true []], out := [{ v := 0, k := BK.box, fz := false, sz := 0, es := [AV.slc d4.fst (List.map (mkV false [Lf.fi IntKind.u8]) (txB d4))] }], new := [] }) (some { pan := true, res := AV.iface 93 (AV.agg []), out := [{ v := 0, k := BK.box, fz := false, sz := 0, es := [AV.slc d4.fst (List.map (mkV false [Lf.fi IntKind.u8]) d4.snd)] }], new := [] })) (some { pan := true, res := AV.iface 93 (AV.agg []), out := [{ v := 0, k := BK.box, fz := false, sz := 0, es := [AV.slc d3.fst.fst (List.map (mkV false [Lf.fi IntKind.u8]) d3.fst.snd)] }], new := [] }))
      (bK (decide (kind = 4)) (oK (nmP.dec [AV.ptr 1000000 0 0 0, AV.int IntKind.i64 1] [{ v := 0, k := BK.box, fz := false, sz := 0, es := [AV.slc r_b_x (List.map (mkV false [Lf.fi IntKind.u8]) r_b)] }]) fun (d5 : (Bool × List Int) × Int) => bK (nmO d5) (oK (nmP.dec [AV.ptr 1000000 0 0 0, AV.int IntKind.i64 1] [{ v := 0, k := BK.box, fz := false, sz := 0, es := [AV.slc d5.fst.fst (List.map (mkV false [Lf.fi IntKind.u8]) (nmB d5))] }]) fun (d6 : (Bool × List Int) × Int) => bK (nmO d6) (some { pan := false, res := AV.agg [AV.int IntKind.i64 kind, AV.int IntKind.i64 (nmV d5), AV.int IntKind.i64 0, AV.int IntKind.i64 (nmV d6), AV.int IntKind.i64 0, AV.int IntKind.i64 0, AV.int IntKind.i64 0, AV.str [], AV.slc true []], out := [{ v := 0, k := BK.box, fz := false, sz := 0, es := [AV.slc d6.fst.fst (List.map (mkV false [Lf.fi IntKind.u8]) (nmB d6))] }], new := [] }) (some { pan := true, res := AV.iface 93 (AV.agg []), out := [{ v := 0, k := BK.box, fz := false, sz := 0, es := [AV.slc d6.fst.fst (List.map (mkV false [Lf.fi IntKind.u8]) d6.fst.snd)] }], new := [] })) (some { pan := true, res := AV.iface 93 (AV.agg []), out := [{ v := 0, k := BK.box, fz := false, sz := 0, es := [AV.slc d5.fst.fst (List.map (mkV false [Lf.fi IntKind.u8]) d5.fst.snd)] }], new := [] }))
        (bK (decide (kind = 6)) (oK (nmP.dec [AV.ptr 1000000 0 0 0, AV.int IntKind.i64 1] [{ v := 0, k := BK.box, fz := false, sz := 0, es := [AV.slc r_b_x (List.map (mkV false [Lf.fi IntKind.u8]) r_b)] }]) fun (d7 : (Bool × List Int) × Int) => bK (nmO d7) (oK (nmP.dec [AV.ptr 1000000 0 0 0, AV.int IntKind.i64 1] [{ v := 0, k := BK.box, fz := false, sz := 0, es := [AV.slc d7.fst.fst (List.map (mkV false [Lf.fi IntKind.u8]) (nmB d7))] }]) fun (d8 : (Bool × List Int) × Int) => bK (nmO d8) (some { pan := false, res := AV.agg [AV.int IntKind.i64 kind, AV.int IntKind.i64 (nmV d7), AV.int IntKind.i64 0, AV.int IntKind.i64 (nmV d8), AV.int IntKind.i64 0, AV.int IntKind.i64 0, AV.int IntKind.i64 0, AV.str [], AV.slc true []], out := [{ v := 0, k := BK.box, fz := false, sz := 0, es := [AV.slc d8.fst.fst (List.map (mkV false [Lf.fi IntKind.u8]) (nmB d8))] }], new := [] }) (some { pan := true, res := AV.iface 93 (AV.agg []), out := [{ v := 0, k := BK.box, fz := false, sz := 0, es := [AV.slc d8.fst.fst (List.map (mkV false [Lf.fi IntKind.u8]) d8.fst.snd)] }], new := [] })) (some { pan := true, res := AV.iface 93 (AV.agg []), out := [{ v := 0, k := BK.box, fz := false, sz := 0, es := [AV.slc d7.fst.fst (List.map (mkV false [Lf.fi IntKind.u8]) d7.fst.snd)] }], new := [] }))
          (bK (decide (kind = 7)) (oK (nmP.dec [AV.ptr 1000000 0 0 0, AV.int IntKind.i64 1] [{ v := 0, k := BK.box, fz := false, sz := 0, es := [AV.slc r_b_x (List.map (mkV false [Lf.fi IntKind.u8]) r_b)] }]) fun (d9 : (Bool × List Int) × Int) => bK (nmO d9) (oK (nmP.dec [AV.ptr 1000000 0 0 0, AV.int IntKind.i64 1] [{ v := 0, k := BK.box, fz := false, sz := 0, es := [AV.slc d9.fst.fst (List.map (mkV false [Lf.fi IntKind.u8]) (nmB d9))] }]) fun (d10 : (Bool × List Int) × Int) => bK (nmO d10) (some { pan := false, res := AV.agg [AV.int IntKind.i64 kind, AV.int IntKind.i64 (nmV d9), AV.int IntKind.i64 0, AV.int IntKind.i64 (nmV d10), AV.int IntKind.i64 0, AV.int IntKind.i64 0, AV.int IntKind.i64 0, AV.str [], AV.slc true []], out := [{ v := 0, k := BK.box, fz := false, sz := 0, es := [AV.slc d10.fst.fst (List.map (mkV false [Lf.fi IntKind.u8]) (nmB d10))] }], new := [] }) (some { pan := true, res := AV.iface 93 (AV.agg []), out := [{ v := 0, k := BK.box, fz := false, sz := 0, es := [AV.slc d10.fst.fst (List.map (mkV false [Lf.fi IntKind.u8]) d10.fst.snd)] }], new := [] })) (some { pan := true, res := AV.iface 93 (AV.agg []), out := [{ v := 0, k := BK.box, fz := false, sz := 0, es := [AV.slc d9.fst.fst (List.map (mkV false [Lf.fi IntKind.u8]) d9.fst.snd)] }], new := [] }))
            (bK (decide (kind = 8)) (oK (nmP.dec [AV.ptr 1000000 0 0 0, AV.int IntKind.i64 1] [{ v := 0, k := BK.box, fz := false, sz := 0, es := [AV.slc r_b_x (List.map (mkV false [Lf.fi IntKind.u8]) r_b)] }]) fun (d11 : (Bool × List Int) × Int) => bK (nmO d11) (oK (nmP.dec [AV.ptr 1000000 0 0 0, AV.int IntKind.i64 1] [{ v := 0, k := BK.box, fz := false, sz := 0, es := [AV.slc d11.fst.fst (List.map (mkV false [Lf.fi IntKind.u8]) (nmB d11))] }]) fun (d12 : (Bool × List Int) × Int) => bK (nmO d12) (some { pan := false, res := AV.agg [AV.int IntKind.i64 kind, AV.int IntKind.i64 (nmV d11), AV.int IntKind.i64 0, AV.int IntKind.i64 (nmV d12), AV.int IntKind.i64 0, AV.int IntKind.i64 0, AV.int IntKind.i64 0, AV.str [], AV.slc true []], out := [{ v := 0, k := BK.box, fz := false, sz := 0, es := [AV.slc d12.fst.fst (List.map (mkV false [Lf.fi IntKind.u8]) (nmB d12))] }], new := [] }) (some { pan := true, res := AV.iface 93 (AV.agg []), out := [{ v := 0, k := BK.box, fz := false, sz := 0, es := [AV.slc d12.fst.fst (List.map (mkV false [Lf.fi IntKind.u8]) d12.fst.snd)] }], new := [] })) (some { pan := true, res := AV.iface 93 (AV.agg []), out := [{ v := 0, k := BK.box, fz := false, sz := 0, es := [AV.slc d11.fst.fst (List.map (mkV false [Lf.fi IntKind.u8]) d11.fst.snd)] }], new := [] }))
              (bK (decide (kind = 5))
                (oK (nmP.dec [AV.ptr 1000000 0 0 0, AV.int IntKind.i64 1] [{ v := 0, k := BK.box, fz := false, sz := 0, es := [AV.slc r_b_x (List.map (mkV false [Lf.fi IntKind.u8]) r_b)] }]) fun (d13 : (Bool × List Int) × Int) =>
                  bK (nmO d13)
                    (oK (nmP.dec [AV.ptr 1000000 0 0 0, AV.int IntKind.i64 1] [{ v := 0, k := BK.box, fz := false, sz := 0, es := [AV.slc d13.fst.fst (List.map (mkV false [Lf.fi IntKind.u8]) (nmB d13))] }]) fun (d14 : (Bool × List Int) × Int) =>
                      bK (nmO d14) (oK (nmP.dec [AV.ptr 1000000 0 0 0, AV.int IntKind.i64 1] [{ v := 0, k := BK.box, fz := false, sz := 0, es := [AV.slc d14.fst.fst (List.map (mkV false [Lf.fi IntKind.u8]) (nmB d14))] }]) fun (d15 : (Bool × List Int) × Int) => bK (nmO d15) (oK (txP.dec [AV.ptr 1000000 0 0 0] [{ v := 0, k := BK.box, fz := false, sz := 0, es := [AV.slc d15.fst.fst (List.map (mkV false [Lf.fi IntKind.u8]) (nmB d15))] }]) fun (d16 : Bool × List Int) => bK (txO d16) (some { pan := false, res := AV.agg [AV.int IntKind.i64 kind, AV.int IntKind.i64 (nmV d13), AV.int IntKind.i64 0, AV.int IntKind.i64 (nmV d14), AV.int IntKind.i64 (nmV d15), AV.int IntKind.i64 0, AV.int IntKind.i64 0, AV.str (txV d16), AV.slc true []], out := [{ v := 0, k := BK.box, fz := false, sz := 0, es := [AV.slc d16.fst (List.map (mkV false [Lf.fi IntKind.u8]) (txB d16))] }], new := [] }) (some { pan := true, res := AV.iface 93 (AV.agg []), out := [{ v := 0, k := BK.box, fz := false, sz := 0, es := [AV.slc d16.fst (List.map (mkV false [Lf.fi IntKind.u8]) d16.snd)] }], new := [] })) (some { pan := true, res := AV.iface 93 (AV.agg []), out := [{ v := 0, k := BK.box, fz := false, sz := 0, es := [AV.slc d15.fst.fst (List.map (mkV false [Lf.fi IntKind.u8]) d15.fst.snd)] }], new := [] })) (some { pan := true, res := AV.iface 93 (AV.agg []), out := [{ v := 0, k := BK.box, fz := false, sz := 0, es := [AV.slc d14.fst.fst (List.map (mkV false [Lf.fi IntKind.u8]) d14.fst.snd)] }], new := [] }))
                    (some { pan := true, res := AV.iface 93 (AV.agg []), out := [{ v := 0, k := BK.box, fz := false, sz := 0, es := [AV.slc d13.fst.fst (List.map (mkV false [Lf.fi IntKind.u8]) d13.fst.snd)] }], new := [] }))
                (bK (decide (kind = 12)) (oK (nmP.dec [AV.ptr 1000000 0 0 0, AV.int IntKind.i64 1] [{ v := 0, k := BK.box, fz := false, sz := 0, es := [AV.slc r_b_x (List.map (mkV false [Lf.fi IntKind.u8]) r_b)] }]) fun (d17 : (Bool × List Int) × Int) => bK (nmO d17) (oK (nmP.dec [AV.ptr 1000000 0 0 0, AV.int IntKind.i64 2] [{ v := 0, k := BK.box, fz := false, sz := 0, es := [AV.slc d17.fst.fst (List.map (mkV false [Lf.fi IntKind.u8]) (nmB d17))] }]) fun (d18 : (Bool × List Int) × Int) => bK (nmO d18) (some { pan := false, res := AV.agg [AV.int IntKind.i64 kind, AV.int IntKind.i64 0, AV.int IntKind.i64 0, AV.int IntKind.i64 0, AV.int IntKind.i64 0, AV.int IntKind.i64 (nmV d17), AV.int IntKind.i64 (nmV d18), AV.str [], AV.slc true []], out := [{ v := 0, k := BK.box, fz := false, sz := 0, es := [AV.slc d18.fst.fst (List.map (mkV false [Lf.fi IntKind.u8]) (nmB d18))] }], new := [] }) (some { pan := true, res := AV.iface 93 (AV.agg []), out := [{ v := 0, k := BK.box, fz := false, sz := 0, es := [AV.slc d18.fst.fst (List.map (mkV false [Lf.fi IntKind.u8]) d18.fst.snd)] }], new := [] })) (some { pan := true, res := AV.iface 93 (AV.agg []), out := [{ v := 0, k := BK.box, fz := false, sz := 0, es := [AV.slc d17.fst.fst (List.map (mkV false [Lf.fi IntKind.u8]) d17.fst.snd)] }], new := [] }))
                  (bK (decide (kind = 14))
                    (oK (nmP.dec [AV.ptr 1000000 0 0 0, AV.int IntKind.i64 1] [{ v := 0, k := BK.box, fz := false, sz := 0, es := [AV.slc r_b_x (List.map (mkV false [Lf.fi IntKind.u8]) r_b)] }]) fun (d19 : (Bool × List Int) × Int) =>
                      bK (nmO d19)
                        (oK (nmP.dec [AV.ptr 1000000 0 0 0, AV.int IntKind.i64 1] [{ v := 0, k := BK.box, fz := false, sz := 0, es := [AV.slc d19.fst.fst (List.map (mkV false [Lf.fi IntKind.u8]) (nmB d19))] }]) fun (d20 : (Bool × List Int) × Int) =>
                          bK (nmO d20) (bK (decide (20 < nmV d20)) (some { pan := true, res := AV.iface 93 (AV.agg []), out := [{ v := 0, k := BK.box, fz := false, sz := 0, es := [AV.slc d20.fst.fst (List.map (mkV false [Lf.fi IntKind.u8]) (nmB d20))] }], new := [] }) (oK (gnsP.dec [AV.ptr 1000000 0 0 0, AV.int IntKind.i64 (nmV d20), AV.int IntKind.i64 1] [{ v := 0, k := BK.box, fz := false, sz := 0, es := [AV.slc d20.fst.fst (List.map (mkV false [Lf.fi IntKind.u8]) (nmB d20))] }]) fun (d21 : (Bool × List Int) × Int × Int) => bK (gnO d21) (some { pan := false, res := AV.agg [AV.int IntKind.i64 kind, AV.int IntKind.i64 (nmV d19), AV.int IntKind.i64 0, AV.int IntKind.i64 0, AV.int IntKind.i64 0, AV.int IntKind.i64 0, AV.int IntKind.i64 0, AV.str [], AV.slc (noI (gnL d21)) (List.map (mkV false [Lf.fi IntKind.i64]) (gnL d21))], out := [{ v := 0, k := BK.box, fz := false, sz := 0, es := [AV.slc d21.fst.fst (List.map (mkV false [Lf.fi IntKind.u8]) (gnB d21))] }], new := [] }) (some { pan := true, res := AV.iface 93 (AV.agg []), out := [{ v := 0, k := BK.box, fz := false, sz := 0, es := [AV.slc d21.fst.fst (List.map (mkV false [Lf.fi IntKind.u8]) (gnB d21))] }], new := [] }))) (some { pan := true, res := AV.iface 93 (AV.agg []), out := [{ v := 0, k := BK.box, fz := false, sz := 0, es := [AV.slc d20.fst.fst (List.map (mkV false [Lf.fi IntKind.u8]) d20.fst.snd)] }], new := [] }))
                        (some { pan := true, res := AV.iface 93 (AV.agg []), out := [{ v := 0, k := BK.box, fz := false, sz := 0, es := [AV.slc d19.fst.fst (List.map (mkV false [Lf.fi IntKind.u8]) d19.fst.snd)] }], new := [] }))
                    (oK (nmP.dec [AV.ptr 1000000 0 0 0, AV.int IntKind.i64 1] [{ v := 0, k := BK.box, fz := false, sz := 0, es := [AV.slc r_b_x (List.map (mkV false [Lf.fi IntKind.u8]) r_b)] }]) fun (d22 : (Bool × List Int) × Int) => bK (nmO d22) (some { pan := false, res := AV.agg [AV.int IntKind.i64 kind, AV.int IntKind.i64 0, AV.int IntKind.i64 0, AV.int IntKind.i64 0, AV.int IntKind.i64 0, AV.int IntKind.i64 (nmV d22), AV.int IntKind.i64 0, AV.str [], AV.slc true []], out := [{ v := 0, k := BK.box, fz := false, sz := 0, es := [AV.slc d22.fst.fst (List.map (mkV false [Lf.fi IntKind.u8]) (nmB d22))] }], new := [] }) (some { pan := true, res := AV.iface 93 (AV.agg []), out := [{ v := 0, k := BK.box, fz := false, sz := 0, es := [AV.slc d22.fst.fst (List.map (mkV false [Lf.fi IntKind.u8]) d22.fst.snd)] }], new := [] })))))))))))
theorem stp_w (r_b_x : Bool) (r_b : List Int) (kind : Int) : unitQ Try.prog cfg Sp3 LP0 false 33 (.ptr outBase 0 0 0 :: groupA stp_sh (Tu.mk stp_fs kind)) [boxB (Tu.mk stp_bs (r_b_x, r_b))] = stp_r r_b_x r_b kind := by kernel_rfl

end Go.Proofs.Ytmjgiplgghmapaa
