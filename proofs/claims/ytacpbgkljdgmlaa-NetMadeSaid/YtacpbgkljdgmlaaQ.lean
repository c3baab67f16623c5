/- A part of the proof: contracts of functions. -/
import Derived.Test.YtacpbgkljdgmlaaP
import Derived.Test.YtacpbgkljdgmlaaAbAny

set_option linter.unusedVariables false
set_option linter.unusedSimpArgs false
set_option maxRecDepth 100000
namespace Go.Proofs.Ytacpbgkljdgmlaa
open Go Go.Ab
noncomputable def C1 : PKs := clPK.add 21 deP
theorem C1_ok : PKsOk Try.prog C1 := PKsOk.any clPK_ok 21 deA _ _ deO
noncomputable def C0 : PKs := PKs0.add 21 deP
theorem C0_ok : PKsOk Try.prog C0 := PKsOk.any PKs0_ok 21 deA _ _ deO
abbrev turns_id : Nat := 23
abbrev turns_sh : Shp := [some 3, none]
abbrev turns_fs : List Lf := [.fi .i64, .fs, .fb, .fi .i64]
abbrev turns_rsh : Shp := [some 3]
abbrev turns_rfs : List Lf := [.fi .i64, .fs, .fb]
noncomputable def turns_r (g_To : Int) (g_B : List UInt8) (g_Turned : Bool) (to_ : Int) : Option Ret :=
  bK g_Turned (some { pan := true, res := AV.iface 44 (AV.agg []), out := [], new := [] })
  (bK (decide (g_B = [])) (some { pan := true, res := AV.iface 44 (AV.agg []), out := [], new := [] })
    (bK (decide (to_ < 0)) (some { pan := true, res := AV.iface 44 (AV.agg []), out := [], new := [] })
      (bK (decide (to_.tmod 256 = 0)) (some { pan := true, res := AV.iface 44 (AV.agg []), out := [], new := [] })
        (bK (decide (g_B.length < 1000000000))
          (bK (decide (0 + (List.map (fun (c : UInt8) => AV.int IntKind.u8 (↑c.toNat : Int)) g_B).length ≤ (List.map (fun (c : UInt8) => AV.int IntKind.u8 (↑c.toNat : Int)) g_B).length))
            (bK (decide ((↑(List.map (fun (c : UInt8) => AV.int IntKind.u8 (↑c.toNat : Int)) g_B).length : Int) = 0)) none
              (bK (decide (0 ≤ (IntKind.i64.wrap (to_.tdiv 256)).tmod (↑(List.map (fun (c : UInt8) => AV.int IntKind.u8 (↑c.toNat : Int)) g_B).length : Int) ∧ (IntKind.i64.wrap (to_.tdiv 256)).tmod (↑(List.map (fun (c : UInt8) => AV.int IntKind.u8 (↑c.toNat : Int)) g_B).length : Int) < (↑(List.map (fun (c : UInt8) => AV.int IntKind.u8 (↑c.toNat : Int)) g_B).length : Int)))
                (oK (ldRow [Lf.fi IntKind.u8] (List.map (fun (c : UInt8) => AV.int IntKind.u8 (↑c.toNat : Int)) g_B) (0 + ((IntKind.i64.wrap (to_.tdiv 256)).tmod (↑(List.map (fun (c : UInt8) => AV.int IntKind.u8 (↑c.toNat : Int)) g_B).length : Int)).toNat) 0) fun (d0 : Int) => bK (decide (0 ≤ (IntKind.i64.wrap (to_.tdiv 256)).tmod (↑(List.map (fun (c : UInt8) => AV.int IntKind.u8 (↑c.toNat : Int)) g_B).length : Int) ∧ (IntKind.i64.wrap (to_.tdiv 256)).tmod (↑(List.map (fun (c : UInt8) => AV.int IntKind.u8 (↑c.toNat : Int)) g_B).length : Int) < (↑(List.map (fun (c : UInt8) => AV.int IntKind.u8 (↑c.toNat : Int)) g_B).length : Int))) (oK (stRow (List.map (fun (c : UInt8) => AV.int IntKind.u8 (↑c.toNat : Int)) g_B) (0 + ((IntKind.i64.wrap (to_.tdiv 256)).tmod (↑(List.map (fun (c : UInt8) => AV.int IntKind.u8 (↑c.toNat : Int)) g_B).length : Int)).toNat) 0 [AV.int IntKind.u8 (IntKind.u8.wrap (↑(BitVec.ofInt 8 d0 ^^^ BitVec.ofInt 8 (IntKind.u8.wrap (to_.tmod 256))).toNat : Int))]) fun (d1 : List AV) => bK (decide (0 + (List.map (fun (c : UInt8) => AV.int IntKind.u8 (↑c.toNat : Int)) g_B).length ≤ d1.length)) (oK (bytesOf? (List.take (List.map (fun (c : UInt8) => AV.int IntKind.u8 (↑c.toNat : Int)) g_B).length (List.drop 0 d1))) fun (d2 : List UInt8) => some { pan := false, res := AV.agg [AV.int IntKind.i64 g_To, AV.str d2, AV.bool true], out := [], new := [] }) none) none) none))
            none)
          none))))
theorem turns_w (g_To : Int) (g_B : List UInt8) (g_Turned : Bool) (to_ : Int) : unitQ Try.prog cfg PKz LP0 false 23 (groupA turns_sh (Tu.mk turns_fs (g_To, g_B, g_Turned, to_))) [] = turns_r g_To g_B g_Turned to_ := by kernel_rfl

/-- A byte turned. -/
def turnV (b : Int) (t : Int) : UInt8 := UInt8.ofNat (BitVec.ofInt 8 b ^^^ BitVec.ofInt 8 (IntKind.u8.wrap (t.tmod 256))).toNat
theorem turnV_to (b t : Int) : IntKind.u8.wrap (((BitVec.ofInt 8 b ^^^ BitVec.ofInt 8 (IntKind.u8.wrap (t.tmod 256))).toNat : Nat) : Int) = ((turnV b t).toNat : Int) := by
  have h := (BitVec.ofInt 8 b ^^^ BitVec.ofInt 8 (IntKind.u8.wrap (t.tmod 256))).isLt
  rw [w8 (by omega) (by omega)]
  unfold turnV
  rw [UInt8.toNat_ofNat']
  omega
def turnK (B : List UInt8) (t : Int) : Nat := ((IntKind.i64.wrap (t.tdiv 256)).tmod (B.length : Int)).toNat
def turnB (B : List UInt8) (t : Int) : List UInt8 := B.set (turnK B t) (turnV ((B.getD (turnK B t) 0).toNat : Int) t)
/-- Can none of it be turned? -/
def noTurn (g : Gram_T) (t : Int) : Bool := g.2.2 || decide (g.2.1 = []) || decide (t < 0) || decide (t.tmod 256 = 0)
abbrev TnD : Type := Gram_T × Int
def tnA (d : TnD) : List AV × List Blk := ([.agg (Tu.mk Gram_tfs d.1), .int .i64 d.2], [])
theorem tnA_inj (d d' : TnD) (h : tnA d = tnA d') : d = d' := by
  obtain ⟨g, t⟩ := d
  obtain ⟨g', t'⟩ := d'
  simp only [tnA, List.cons.injEq, Prod.mk.injEq, AV.int.injEq, AV.agg.injEq, and_true, true_and] at h
  rw [mk_inj (fs := Gram_tfs) rfl h.1, h.2]
def noTurnQ (d : TnD) : Bool := noTurn d.1 d.2
def turnBQ (B : List UInt8) (t : Int) : List UInt8 := turnB B t
noncomputable def tnP : PK := PK.of tnA (fun d => d.1.2.1.length ≤ 1000 ∧ d.2 < 9223372036854775808) fun d => .ite (noTurnQ d) (.leaf { pan := true, res := .iface 44 (.agg []), out := [], new := [] }) (.leaf { pan := false, res := .agg [.int .i64 d.1.1, .str (turnBQ d.1.2.1 d.2), .bool true], out := [], new := [] })
theorem turnK_lt {B : List UInt8} {t : Int} (hB : B ≠ []) (h0 : 0 ≤ t) (h1 : t < 9223372036854775808) (hl : B.length ≤ 1000) : 0 ≤ (IntKind.i64.wrap (t.tdiv 256)).tmod (B.length : Int) ∧ (IntKind.i64.wrap (t.tdiv 256)).tmod (B.length : Int) < (B.length : Int) ∧ turnK B t < B.length := by
  have hp : 0 < B.length := List.length_pos_iff.2 hB
  have ht : 0 ≤ t.tdiv 256 := Int.tdiv_nonneg h0 (by omega)
  have hle : t.tdiv 256 ≤ t := by
    rw [Int.tdiv_eq_ediv_of_nonneg h0]
    omega
  rw [w64 (by omega) (by omega)]
  have h2 := Int.tmod_nonneg (B.length : Int) ht
  have h3 := Int.tmod_lt_of_pos (t.tdiv 256) (show (0 : Int) < B.length by omega)
  refine ⟨h2, h3, ?_⟩
  unfold turnK
  rw [w64 (by omega) (by omega)]
  omega
theorem tnO (d : TnD) (h : d.1.2.1.length ≤ 1000 ∧ d.2 < 9223372036854775808) : CallOk Try.prog 23 (tnA d).1 (tnA d).2 (if noTurnQ d = true then { pan := true, res := .iface 44 (.agg []), out := [], new := [] } else { pan := false, res := .agg [.int .i64 d.1.1, .str (turnBQ d.1.2.1 d.2), .bool true], out := [], new := [] }) := by
  obtain ⟨⟨to, B, q⟩, t⟩ := d
  obtain ⟨hB, ht⟩ := h
  simp only at hB ht
  refine CallOk.unit (fnOk PKz_ok 21) rfl fLoops_none (o := false) (by show 0 ≤ 1000; decide) ((turns_w to B q t).trans ?_)
  have e : noTurnQ ((to, B, q), t) = (q || decide (B = []) || decide (t < 0) || decide (t.tmod 256 = 0)) := rfl
  rw [e]
  unfold turns_r
  cases q with
  | true => simp only [Bool.true_or, if_true]; rfl
  | false =>
    rw [bK_neg rfl, Bool.false_or]
    refine bK_i (fun c => ?_) (fun c => ?_)
    · rw [decide_eq_true c, Bool.true_or, Bool.true_or, if_pos rfl]
    · rw [decide_eq_false c, Bool.false_or]
      refine bK_i (fun c2 => ?_) (fun c2 => ?_)
      · rw [decide_eq_true c2, Bool.true_or, if_pos rfl]
      · rw [decide_eq_false c2, Bool.false_or]
        refine bK_i (fun c3 => ?_) (fun c3 => ?_)
        · rw [decide_eq_true c3, if_pos rfl]
        · rw [decide_eq_false c3, if_neg (by simp)]
          obtain ⟨k1, k2, k3⟩ := turnK_lt c (by omega) ht hB
          have hp : 0 < B.length := List.length_pos_iff.2 c
          refine bK_tq (Q := fun z => z = _) (decide_eq_true (by omega)) (bK_tq (Q := fun z => z = _) (by simp) (bK_fq (Q := fun z => z = _) (by simp; exact c) ?_))
          simp only [List.length_map, Nat.zero_add]
          refine bK_tq (Q := fun z => z = _) (decide_eq_true ⟨k1, k2⟩) ?_
          refine oK_q (Q := fun z => z = _) (ldByte B (turnK B t) k3) ?_
          refine bK_tq (Q := fun z => z = _) (decide_eq_true ⟨k1, k2⟩) ?_
          rw [turnV_to]
          refine oK_q (Q := fun z => z = _) (stByte B (turnK B t) k3 _) ?_
          refine bK_tq (Q := fun z => z = _) (by simp) ?_
          rw [List.drop_zero, List.take_of_length_le (by simp)]
          refine oK_q (Q := fun z => z = _) (bytesOf_map _) ?_
          have : turnBQ B t = B.set (turnK B t) (turnV (B[turnK B t].toNat : Int) t) := by
            show turnB B t = _
            unfold turnB
            rw [getD_at k3]
          rw [this]
noncomputable def C2 : PKs := C1.add 23 tnP
theorem C2_ok : PKsOk Try.prog C2 := PKsOk.any C1_ok 23 tnA _ _ fun d h => tnO d h
noncomputable def C3 : PKs := C0.add 23 tnP
theorem C3_ok : PKsOk Try.prog C3 := PKsOk.any C0_ok 23 tnA _ _ fun d h => tnO d h
noncomputable def send0 (x : Bool) (g : Gram_T) : Option Ret := unitQ Try.prog cfg C3 LP0 false 8 [.slc x [], .agg (Tu.mk Gram_tfs g)] []
noncomputable def send0_r (x : Bool) (g : Gram_T) : Option Ret :=
  some { pan := false, res := AV.slc false [AV.agg [AV.int IntKind.i64 g.fst, AV.str g.snd.fst, AV.bool g.snd.snd]], out := [], new := [] }
theorem send0_w (x : Bool) (g : Gram_T) : send0 x g = send0_r x g := by kernel_rfl

abbrev send_id : Nat := 8
abbrev send_sh : Shp := [none, some 3]
abbrev send_fs : List Lf := [.fl true Gram_tfs, .fi .i64, .fs, .fb]
abbrev send_rsh : Shp := [none]
abbrev send_rfs : List Lf := [.fl true Gram_tfs]
noncomputable def send_r (l_x : Bool) (l : List Gram_T) (g_To : Int) (g_B : List UInt8) (g_Turned : Bool) : Option Ret :=
  oK (clP.dec [AV.slc l_x (List.map (mkV true Gram_tfs) l)] []) fun (d0 : Bool × List (Int × List UInt8 × Bool)) => bK (decide (0 + (List.map (mkV true Gram_tfs) d0.snd).length ≤ (List.map (mkV true Gram_tfs) d0.snd).length)) (bK (decide (40 ≤ (↑(List.map (mkV true Gram_tfs) d0.snd).length : Int))) (bK (decide (0 + (List.map (mkV true Gram_tfs) d0.snd).length ≤ (List.map (mkV true Gram_tfs) d0.snd).length)) (some { pan := false, res := AV.slc false (List.take (List.map (mkV true Gram_tfs) d0.snd).length (List.drop 0 (List.map (mkV true Gram_tfs) d0.snd))), out := [], new := [] }) none) (bK (decide (0 + (List.map (mkV true Gram_tfs) d0.snd).length ≤ (List.map (mkV true Gram_tfs) d0.snd).length)) (bK (decide (0 = 0 ∧ (List.map (mkV true Gram_tfs) d0.snd).length = (List.map (mkV true Gram_tfs) d0.snd).length) && bytesFit Try.prog 24 ((List.map (mkV true Gram_tfs) d0.snd).length + 1)) (bK (decide (0 + ((List.map (mkV true Gram_tfs) d0.snd).length + 1) ≤ (List.take (List.map (mkV true Gram_tfs) d0.snd).length (List.map (mkV true Gram_tfs) d0.snd) ++ [AV.agg [AV.int IntKind.i64 g_To, AV.str g_B, AV.bool g_Turned]]).length)) (some { pan := false, res := AV.slc false (List.take ((List.map (mkV true Gram_tfs) d0.snd).length + 1) (List.drop 0 (List.take (List.map (mkV true Gram_tfs) d0.snd).length (List.map (mkV true Gram_tfs) d0.snd) ++ [AV.agg [AV.int IntKind.i64 g_To, AV.str g_B, AV.bool g_Turned]]))), out := [], new := [] }) none) none) none)) none
theorem send_w (l_x : Bool) (l : List Gram_T) (g_To : Int) (g_B : List UInt8) (g_Turned : Bool) : unitQ Try.prog cfg C2 LP0 false 8 (groupA send_sh (Tu.mk send_fs ((l_x, l), g_To, g_B, g_Turned))) [] = send_r l_x l g_To g_B g_Turned := by kernel_rfl

noncomputable def comes0 (x : Bool) (i : Int) : Option Ret := unitQ Try.prog cfg C3 LP0 false 10 [.slc x [], .int .i64 i] []
noncomputable def comes0_r (x : Bool) (i : Int) : Option Ret :=
  bK (decide (0 ≤ i)) (bK (!decide (i < 0)) (some { pan := false, res := AV.tup [AV.slc true [], AV.agg [AV.int IntKind.i64 0, AV.str [], AV.bool false], AV.bool false], out := [], new := [] }) (oK (elemAt true Gram_tfs [] i) fun (d0 : Int × List UInt8 × Bool) => oK (deP.dec [AV.slc true [], AV.int IntKind.i64 i, AV.int IntKind.i64 (IntKind.i64.wrap (i + 1))] []) fun (d1 : List (Int × List UInt8 × Bool) × Int) => none)) (some { pan := false, res := AV.tup [AV.slc true [], AV.agg [AV.int IntKind.i64 0, AV.str [], AV.bool false], AV.bool false], out := [], new := [] })
theorem comes0_w (x : Bool) (i : Int) : comes0 x i = comes0_r x i := by kernel_rfl

abbrev comes_id : Nat := 10
abbrev comes_sh : Shp := [none, none]
abbrev comes_fs : List Lf := [.fl true Gram_tfs, .fi .i64]
abbrev comes_rsh : Shp := [none, some 3, none]
abbrev comes_rfs : List Lf := [.fl true Gram_tfs, .fi .i64, .fs, .fb, .fb]
noncomputable def comes_r (l_x : Bool) (l : List Gram_T) (i : Int) : Option Ret :=
  oK (clP.dec [AV.slc l_x (List.map (mkV true Gram_tfs) l)] []) fun (d0 : Bool × List (Int × List UInt8 × Bool)) =>
  bK (decide (0 + (List.map (mkV true Gram_tfs) d0.snd).length ≤ (List.map (mkV true Gram_tfs) d0.snd).length))
    (bK (decide (0 ≤ i)) (bK (!decide (i < (↑(List.take (List.map (mkV true Gram_tfs) d0.snd).length (List.drop 0 (List.map (mkV true Gram_tfs) d0.snd))).length : Int))) (bK (decide (0 + (List.map (mkV true Gram_tfs) d0.snd).length ≤ (List.map (mkV true Gram_tfs) d0.snd).length)) (some { pan := false, res := AV.tup [AV.slc false (List.take (List.map (mkV true Gram_tfs) d0.snd).length (List.drop 0 (List.map (mkV true Gram_tfs) d0.snd))), AV.agg [AV.int IntKind.i64 0, AV.str [], AV.bool false], AV.bool false], out := [], new := [] }) none) (bK (decide (0 ≤ i ∧ i < (↑(List.map (mkV true Gram_tfs) d0.snd).length : Int))) (oK (ldRow Gram_tfs (List.map (mkV true Gram_tfs) d0.snd) (0 + i.toNat) 0) fun (d1 : Int × List UInt8 × Bool) => oK (deP.dec [AV.sref 1000000 0 0 (List.map (mkV true Gram_tfs) d0.snd).length, AV.int IntKind.i64 i, AV.int IntKind.i64 (IntKind.i64.wrap (i + 1))] [{ v := 0, k := BK.row, fz := false, sz := 3, es := List.map (mkV true Gram_tfs) d0.snd }]) fun (d2 : List (Int × List UInt8 × Bool) × Int) => bK (decide (0 + (delG d2.fst d2.snd).length ≤ (List.map (mkV true Gram_tfs) (delG d2.fst d2.snd ++ [(0, [], false)])).length)) (some { pan := false, res := AV.tup [AV.slc false (List.take (delG d2.fst d2.snd).length (List.drop 0 (List.map (mkV true Gram_tfs) (delG d2.fst d2.snd ++ [(0, [], false)])))), AV.agg [AV.int IntKind.i64 d1.fst, AV.str d1.snd.fst, AV.bool d1.snd.snd], AV.bool true], out := [], new := [] }) none) none))
      (bK (decide (0 + (List.map (mkV true Gram_tfs) d0.snd).length ≤ (List.map (mkV true Gram_tfs) d0.snd).length)) (some { pan := false, res := AV.tup [AV.slc false (List.take (List.map (mkV true Gram_tfs) d0.snd).length (List.drop 0 (List.map (mkV true Gram_tfs) d0.snd))), AV.agg [AV.int IntKind.i64 0, AV.str [], AV.bool false], AV.bool false], out := [], new := [] }) none))
    none
theorem comes_w (l_x : Bool) (l : List Gram_T) (i : Int) : unitQ Try.prog cfg C2 LP0 false 10 (groupA comes_sh (Tu.mk comes_fs ((l_x, l), i))) [] = comes_r l_x l i := by kernel_rfl

noncomputable def turned0 (x : Bool) (i t : Int) : Option Ret := unitQ Try.prog cfg C3 LP0 false 15 [.slc x [], .int .i64 i, .int .i64 t] []
noncomputable def turned0_r (x : Bool) (i : Int) (t : Int) : Option Ret :=
  bK (decide (0 ≤ i)) (bK (!decide (i < 0)) (some { pan := false, res := AV.tup [AV.slc true [], AV.bool false], out := [], new := [] }) (oK (elemAt true Gram_tfs [] i) fun (d0 : Int × List UInt8 × Bool) => oK (tnP.dec [AV.agg [AV.int IntKind.i64 d0.fst, AV.str d0.snd.fst, AV.bool d0.snd.snd], AV.int IntKind.i64 t] []) fun (d1 : (Int × List UInt8 × Bool) × Int) => bK (noTurnQ d1) (oK (tnP.dec [AV.agg [AV.int IntKind.i64 d0.fst, AV.str d0.snd.fst, AV.bool d0.snd.snd], AV.int IntKind.i64 t] []) fun (d2 : (Int × List UInt8 × Bool) × Int) => bK (noTurnQ d2) (some { pan := false, res := AV.tup [AV.slc true [], AV.bool false], out := [], new := [] }) none) (oK (elemAt true Gram_tfs [] i) fun (d3 : Int × List UInt8 × Bool) => none))) (some { pan := false, res := AV.tup [AV.slc true [], AV.bool false], out := [], new := [] })
theorem turned0_w (x : Bool) (i : Int) (t : Int) : turned0 x i t = turned0_r x i t := by kernel_rfl

abbrev turned_id : Nat := 15
abbrev turned_sh : Shp := [none, none, none]
abbrev turned_fs : List Lf := [.fl true Gram_tfs, .fi .i64, .fi .i64]
abbrev turned_rsh : Shp := [none, none]
abbrev turned_rfs : List Lf := [.fl true Gram_tfs, .fb]
noncomputable def turned_r (l_x : Bool) (l : List Gram_T) (i : Int) (to_ : Int) : Option Ret :=
  oK (clP.dec [AV.slc l_x (List.map (mkV true Gram_tfs) l)] []) fun (d0 : Bool × List (Int × List UInt8 × Bool)) =>
  bK (decide (0 ≤ i))
    (bK (!decide (i < (↑(List.map (mkV true Gram_tfs) l).length : Int))) (bK (decide (0 + (List.map (mkV true Gram_tfs) d0.snd).length ≤ (List.map (mkV true Gram_tfs) d0.snd).length)) (some { pan := false, res := AV.tup [AV.slc false (List.take (List.map (mkV true Gram_tfs) d0.snd).length (List.drop 0 (List.map (mkV true Gram_tfs) d0.snd))), AV.bool false], out := [], new := [] }) none)
      (oK (elemAt true Gram_tfs (List.map (mkV true Gram_tfs) l) i) fun (d1 : Int × List UInt8 × Bool) => oK (tnP.dec [AV.agg [AV.int IntKind.i64 d1.fst, AV.str d1.snd.fst, AV.bool d1.snd.snd], AV.int IntKind.i64 to_] []) fun (d2 : (Int × List UInt8 × Bool) × Int) => bK (noTurnQ d2) (oK (tnP.dec [AV.agg [AV.int IntKind.i64 d1.fst, AV.str d1.snd.fst, AV.bool d1.snd.snd], AV.int IntKind.i64 to_] []) fun (d3 : (Int × List UInt8 × Bool) × Int) => bK (noTurnQ d3) (oK (clP.dec [AV.slc l_x (List.map (mkV true Gram_tfs) l)] []) fun (d4 : Bool × List (Int × List UInt8 × Bool)) => bK (decide (0 + (List.map (mkV true Gram_tfs) d4.snd).length ≤ (List.map (mkV true Gram_tfs) d4.snd).length)) (some { pan := false, res := AV.tup [AV.slc false (List.take (List.map (mkV true Gram_tfs) d4.snd).length (List.drop 0 (List.map (mkV true Gram_tfs) d4.snd))), AV.bool false], out := [], new := [] }) none) none) (bK (decide (0 ≤ i ∧ i < (↑(List.map (mkV true Gram_tfs) d0.snd).length : Int))) (oK (stRow (List.map (mkV true Gram_tfs) d0.snd) (0 + i.toNat) 0 [AV.int IntKind.i64 d2.fst.fst, AV.str (turnBQ d2.fst.snd.fst d2.snd), AV.bool true]) fun (d5 : List AV) => bK (decide (0 + (List.map (mkV true Gram_tfs) d0.snd).length ≤ d5.length)) (some { pan := false, res := AV.tup [AV.slc false (List.take (List.map (mkV true Gram_tfs) d0.snd).length (List.drop 0 d5)), AV.bool true], out := [], new := [] }) none) none)))
    (bK (decide (0 + (List.map (mkV true Gram_tfs) d0.snd).length ≤ (List.map (mkV true Gram_tfs) d0.snd).length)) (some { pan := false, res := AV.tup [AV.slc false (List.take (List.map (mkV true Gram_tfs) d0.snd).length (List.drop 0 (List.map (mkV true Gram_tfs) d0.snd))), AV.bool false], out := [], new := [] }) none)
theorem turned_w (l_x : Bool) (l : List Gram_T) (i : Int) (to_ : Int) : unitQ Try.prog cfg C2 LP0 false 15 (groupA turned_sh (Tu.mk turned_fs ((l_x, l), i, to_))) [] = turned_r l_x l i to_ := by kernel_rfl

abbrev sendR_id : Nat := 9
abbrev sendR_sh : Shp := [none, some 3]
abbrev sendR_fs : List Lf := [.fl true Gram_tfs, .fi .i64, .fs, .fb]
abbrev sendR_rsh : Shp := [none]
abbrev sendR_rfs : List Lf := [.fl true Gram_tfs]
noncomputable def sendR_r (l_x : Bool) (l : List Gram_T) (g_To : Int) (g_B : List UInt8) (g_Turned : Bool) : Option Ret :=
  bK ((List.map (mkV true Gram_tfs) l).all fun (y : AV) => decide (y.cells.length = 3))
  (bK (List.map (mkV true Gram_tfs) l).isEmpty (bK (decide ((↑(List.map (mkV true Gram_tfs) l).length : Int) < 40)) (some { pan := false, res := AV.slc false [AV.agg [AV.int IntKind.i64 g_To, AV.str g_B, AV.bool g_Turned]], out := [], new := [] }) (some { pan := false, res := AV.slc false [], out := [], new := [] }))
    (bK (true && bytesFit Try.prog 24 (0 + (List.map (mkV true Gram_tfs) l).length)) (bK (decide ((↑(List.map (mkV true Gram_tfs) l).length : Int) < 40)) (bK (decide (0 + (0 + (List.map (mkV true Gram_tfs) l).length) ≤ ([] ++ List.map (mkV true Gram_tfs) l).length)) (bK (decide (0 = 0 ∧ 0 + (List.map (mkV true Gram_tfs) l).length = ([] ++ List.map (mkV true Gram_tfs) l).length) && bytesFit Try.prog 24 (0 + (List.map (mkV true Gram_tfs) l).length + 1)) (bK (decide (0 + (0 + (List.map (mkV true Gram_tfs) l).length + 1) ≤ (List.take (0 + (List.map (mkV true Gram_tfs) l).length) ([] ++ List.map (mkV true Gram_tfs) l) ++ [AV.agg [AV.int IntKind.i64 g_To, AV.str g_B, AV.bool g_Turned]]).length)) (some { pan := false, res := AV.slc false (List.take (0 + (List.map (mkV true Gram_tfs) l).length + 1) (List.drop 0 (List.take (0 + (List.map (mkV true Gram_tfs) l).length) ([] ++ List.map (mkV true Gram_tfs) l) ++ [AV.agg [AV.int IntKind.i64 g_To, AV.str g_B, AV.bool g_Turned]]))), out := [], new := [] }) none) none) none) (bK (decide (0 + (0 + (List.map (mkV true Gram_tfs) l).length) ≤ ([] ++ List.map (mkV true Gram_tfs) l).length)) (some { pan := false, res := AV.slc false (List.take (0 + (List.map (mkV true Gram_tfs) l).length) (List.drop 0 ([] ++ List.map (mkV true Gram_tfs) l))), out := [], new := [] }) none)) none))
  none
theorem sendR_w (l_x : Bool) (l : List Gram_T) (g_To : Int) (g_B : List UInt8) (g_Turned : Bool) : unitQ Try.prog cfg PKz LP0 false 9 (groupA sendR_sh (Tu.mk sendR_fs ((l_x, l), g_To, g_B, g_Turned))) [] = sendR_r l_x l g_To g_B g_Turned := by kernel_rfl

abbrev goneR_id : Nat := 11
abbrev goneR_sh : Shp := [none, none]
abbrev goneR_fs : List Lf := [.fl true Gram_tfs, .fi .i64]
abbrev goneR_rsh : Shp := [none, some 3, none]
abbrev goneR_rfs : List Lf := [.fl true Gram_tfs, .fi .i64, .fs, .fb, .fb]
noncomputable def goneR_r (l_x : Bool) (l : List Gram_T) (i : Int) : Option Ret :=
  bK (decide (i < 0)) (some { pan := false, res := AV.tup [AV.slc l_x (List.map (mkV true Gram_tfs) l), AV.agg [AV.int IntKind.i64 0, AV.str [], AV.bool false], AV.bool false], out := [], new := [] })
  (bK (decide ((↑(List.map (mkV true Gram_tfs) l).length : Int) ≤ i)) (some { pan := false, res := AV.tup [AV.slc l_x (List.map (mkV true Gram_tfs) l), AV.agg [AV.int IntKind.i64 0, AV.str [], AV.bool false], AV.bool false], out := [], new := [] })
    (bK ((List.map (mkV true Gram_tfs) l).all fun (y : AV) => decide (y.cells.length = 3))
      (bK (decide (0 ≤ i))
        (bK (decide (0 ≤ i.toNat ∧ i.toNat ≤ (List.map (mkV true Gram_tfs) l).length))
          (bK ((List.take (i.toNat - 0) (List.drop 0 (List.map (mkV true Gram_tfs) l))).all fun (y : AV) => decide (y.cells.length = 3))
            (bK (List.take (i.toNat - 0) (List.drop 0 (List.map (mkV true Gram_tfs) l))).isEmpty
              (bK (decide (0 ≤ IntKind.i64.wrap (i + 1)))
                (bK ((List.map (mkV true Gram_tfs) l).all fun (y : AV) => decide (y.cells.length = 3))
                  (bK (decide ((IntKind.i64.wrap (i + 1)).toNat ≤ (List.map (mkV true Gram_tfs) l).length ∧ (List.map (mkV true Gram_tfs) l).length ≤ (List.map (mkV true Gram_tfs) l).length))
                    (bK ((List.take ((List.map (mkV true Gram_tfs) l).length - (IntKind.i64.wrap (i + 1)).toNat) (List.drop (IntKind.i64.wrap (i + 1)).toNat (List.map (mkV true Gram_tfs) l))).all fun (y : AV) => decide (y.cells.length = 3))
                      (bK (List.take ((List.map (mkV true Gram_tfs) l).length - (IntKind.i64.wrap (i + 1)).toNat) (List.drop (IntKind.i64.wrap (i + 1)).toNat (List.map (mkV true Gram_tfs) l))).isEmpty (oK (elemAt true Gram_tfs (List.map (mkV true Gram_tfs) l) i) fun (d0 : Int × List UInt8 × Bool) => some { pan := false, res := AV.tup [AV.slc false [], AV.agg [AV.int IntKind.i64 d0.fst, AV.str d0.snd.fst, AV.bool d0.snd.snd], AV.bool true], out := [], new := [] })
                        (bK (true && bytesFit Try.prog 24 (0 + (List.take ((List.map (mkV true Gram_tfs) l).length - (IntKind.i64.wrap (i + 1)).toNat) (List.drop (IntKind.i64.wrap (i + 1)).toNat (List.map (mkV true Gram_tfs) l))).length)) (oK (elemAt true Gram_tfs (List.map (mkV true Gram_tfs) l) i) fun (d1 : Int × List UInt8 × Bool) => bK (decide (0 + (0 + (List.take ((List.map (mkV true Gram_tfs) l).length - (IntKind.i64.wrap (i + 1)).toNat) (List.drop (IntKind.i64.wrap (i + 1)).toNat (List.map (mkV true Gram_tfs) l))).length) ≤ ([] ++ List.take ((List.map (mkV true Gram_tfs) l).length - (IntKind.i64.wrap (i + 1)).toNat) (List.drop (IntKind.i64.wrap (i + 1)).toNat (List.map (mkV true Gram_tfs) l))).length)) (some { pan := false, res := AV.tup [AV.slc false (List.take (0 + (List.take ((List.map (mkV true Gram_tfs) l).length - (IntKind.i64.wrap (i + 1)).toNat) (List.drop (IntKind.i64.wrap (i + 1)).toNat (List.map (mkV true Gram_tfs) l))).length) (List.drop 0 ([] ++ List.take ((List.map (mkV true Gram_tfs) l).length - (IntKind.i64.wrap (i + 1)).toNat) (List.drop (IntKind.i64.wrap (i + 1)).toNat (List.map (mkV true Gram_tfs) l))))), AV.agg [AV.int IntKind.i64 d1.fst, AV.str d1.snd.fst, AV.bool d1.snd.snd], AV.bool true], out := [], new := [] }) none) none))
                      none)
                    none)
                  none)
                none)
              (bK (true && bytesFit Try.prog 24 (0 + (List.take (i.toNat - 0) (List.drop 0 (List.map (mkV true Gram_tfs) l))).length))
                (bK (decide (0 ≤ IntKind.i64.wrap (i + 1)))
                  (bK ((List.map (mkV true Gram_tfs) l).all fun (y : AV) => decide (y.cells.length = 3))
                    (bK (decide ((IntKind.i64.wrap (i + 1)).toNat ≤ (List.map (mkV true Gram_tfs) l).length ∧ (List.map (mkV true Gram_tfs) l).length ≤ (List.map (mkV true Gram_tfs) l).length))
                      (bK ((List.take ((List.map (mkV true Gram_tfs) l).length - (IntKind.i64.wrap (i + 1)).toNat) (List.drop (IntKind.i64.wrap (i + 1)).toNat (List.map (mkV true Gram_tfs) l))).all fun (y : AV) => decide (y.cells.length = 3))
                        (bK (decide (0 + (0 + (List.take (i.toNat - 0) (List.drop 0 (List.map (mkV true Gram_tfs) l))).length) ≤ ([] ++ List.take (i.toNat - 0) (List.drop 0 (List.map (mkV true Gram_tfs) l))).length))
                          (bK (List.take ((List.map (mkV true Gram_tfs) l).length - (IntKind.i64.wrap (i + 1)).toNat) (List.drop (IntKind.i64.wrap (i + 1)).toNat (List.map (mkV true Gram_tfs) l))).isEmpty (oK (elemAt true Gram_tfs (List.map (mkV true Gram_tfs) l) i) fun (d2 : Int × List UInt8 × Bool) => bK (decide (0 + (0 + (List.take (i.toNat - 0) (List.drop 0 (List.map (mkV true Gram_tfs) l))).length) ≤ ([] ++ List.take (i.toNat - 0) (List.drop 0 (List.map (mkV true Gram_tfs) l))).length)) (some { pan := false, res := AV.tup [AV.slc false (List.take (0 + (List.take (i.toNat - 0) (List.drop 0 (List.map (mkV true Gram_tfs) l))).length) (List.drop 0 ([] ++ List.take (i.toNat - 0) (List.drop 0 (List.map (mkV true Gram_tfs) l))))), AV.agg [AV.int IntKind.i64 d2.fst, AV.str d2.snd.fst, AV.bool d2.snd.snd], AV.bool true], out := [], new := [] }) none)
                            (bK (decide (0 = 0 ∧ 0 + (List.take (i.toNat - 0) (List.drop 0 (List.map (mkV true Gram_tfs) l))).length = ([] ++ List.take (i.toNat - 0) (List.drop 0 (List.map (mkV true Gram_tfs) l))).length) && bytesFit Try.prog 24 (0 + (List.take (i.toNat - 0) (List.drop 0 (List.map (mkV true Gram_tfs) l))).length + (List.take ((List.map (mkV true Gram_tfs) l).length - (IntKind.i64.wrap (i + 1)).toNat) (List.drop (IntKind.i64.wrap (i + 1)).toNat (List.map (mkV true Gram_tfs) l))).length))
                              (oK (elemAt true Gram_tfs (List.map (mkV true Gram_tfs) l) i) fun (d3 : Int × List UInt8 × Bool) =>
                                bK (decide (0 + (0 + (List.take (i.toNat - 0) (List.drop 0 (List.map (mkV true Gram_tfs) l))).length + (List.take ((List.map (mkV true Gram_tfs) l).length - (IntKind.i64.wrap (i + 1)).toNat) (List.drop (IntKind.i64.wrap (i + 1)).toNat (List.map (mkV true Gram_tfs) l))).length) ≤ (List.take (0 + (List.take (i.toNat - 0) (List.drop 0 (List.map (mkV true Gram_tfs) l))).length) ([] ++ List.take (i.toNat - 0) (List.drop 0 (List.map (mkV true Gram_tfs) l))) ++ List.take ((List.map (mkV true Gram_tfs) l).length - (IntKind.i64.wrap (i + 1)).toNat) (List.drop (IntKind.i64.wrap (i + 1)).toNat (List.map (mkV true Gram_tfs) l))).length)) (some { pan := false, res := AV.tup [AV.slc false (List.take (0 + (List.take (i.toNat - 0) (List.drop 0 (List.map (mkV true Gram_tfs) l))).length + (List.take ((List.map (mkV true Gram_tfs) l).length - (IntKind.i64.wrap (i + 1)).toNat) (List.drop (IntKind.i64.wrap (i + 1)).toNat (List.map (mkV true Gram_tfs) l))).length) (List.drop 0 (List.take (0 + (List.take (i.toNat - 0) (List.drop 0 (List.map (mkV true Gram_tfs) l))).length) ([] ++ List.take (i.toNat - 0) (List.drop 0 (List.map (mkV true Gram_tfs) l))) ++ List.take ((List.map (mkV true Gram_tfs) l).length - (IntKind.i64.wrap (i + 1)).toNat) (List.drop (IntKind.i64.wrap (i + 1)).toNat (List.map (mkV true Gram_tfs) l))))), AV.agg [AV.int IntKind.i64 d3.fst, AV.str d3.snd.fst, AV.bool d3.snd.snd], AV.bool true], out := [], new := [] }) none)
                              none))
                          none)
                        none)
                      none)
                    none)
                  none)
                none))
            none)
          none)
        none)
      none))
theorem goneR_w (l_x : Bool) (l : List Gram_T) (i : Int) : unitQ Try.prog cfg PKz LP0 false 11 (groupA goneR_sh (Tu.mk goneR_fs ((l_x, l), i))) [] = goneR_r l_x l i := by kernel_rfl

abbrev turnedR_id : Nat := 16
abbrev turnedR_sh : Shp := [none, none, none]
abbrev turnedR_fs : List Lf := [.fl true Gram_tfs, .fi .i64, .fi .i64]
abbrev turnedR_rsh : Shp := [none, none]
abbrev turnedR_rfs : List Lf := [.fl true Gram_tfs, .fb]
noncomputable def turnedR_r (l_x : Bool) (l : List Gram_T) (i : Int) (to_ : Int) : Option Ret :=
  bK (decide (i < 0)) (some { pan := false, res := AV.tup [AV.slc l_x (List.map (mkV true Gram_tfs) l), AV.bool false], out := [], new := [] })
  (bK (decide ((↑(List.map (mkV true Gram_tfs) l).length : Int) ≤ i)) (some { pan := false, res := AV.tup [AV.slc l_x (List.map (mkV true Gram_tfs) l), AV.bool false], out := [], new := [] })
    (oK (elemAt true Gram_tfs (List.map (mkV true Gram_tfs) l) i) fun (d0 : Int × List UInt8 × Bool) =>
      bK d0.snd.snd (some { pan := false, res := AV.tup [AV.slc l_x (List.map (mkV true Gram_tfs) l), AV.bool false], out := [], new := [] })
        (oK (elemAt true Gram_tfs (List.map (mkV true Gram_tfs) l) i) fun (d1 : Int × List UInt8 × Bool) =>
          bK (decide ((↑(List.length d1.snd.fst) : Int) = 0)) (some { pan := false, res := AV.tup [AV.slc l_x (List.map (mkV true Gram_tfs) l), AV.bool false], out := [], new := [] })
            (bK (decide (to_ < 0)) (some { pan := false, res := AV.tup [AV.slc l_x (List.map (mkV true Gram_tfs) l), AV.bool false], out := [], new := [] })
              (bK (decide (to_.tmod 256 = 0)) (some { pan := false, res := AV.tup [AV.slc l_x (List.map (mkV true Gram_tfs) l), AV.bool false], out := [], new := [] })
                (bK ((List.map (mkV true Gram_tfs) l).all fun (y : AV) => decide (y.cells.length = 3))
                  (bK (List.map (mkV true Gram_tfs) l).isEmpty
                    (oK (elemAt true Gram_tfs (List.map (mkV true Gram_tfs) l) i) fun (d2 : Int × List UInt8 × Bool) =>
                      bK (decide (List.length d2.snd.fst < 1000000000))
                        (bK (decide (0 + (List.map (fun (c : UInt8) => AV.int IntKind.u8 (↑c.toNat : Int)) d2.snd.fst).length ≤ (List.map (fun (c : UInt8) => AV.int IntKind.u8 (↑c.toNat : Int)) d2.snd.fst).length))
                          (bK (decide ((↑(List.map (fun (c : UInt8) => AV.int IntKind.u8 (↑c.toNat : Int)) d2.snd.fst).length : Int) = 0)) none
                            (bK (decide (0 ≤ (IntKind.i64.wrap (to_.tdiv 256)).tmod (↑(List.map (fun (c : UInt8) => AV.int IntKind.u8 (↑c.toNat : Int)) d2.snd.fst).length : Int) ∧ (IntKind.i64.wrap (to_.tdiv 256)).tmod (↑(List.map (fun (c : UInt8) => AV.int IntKind.u8 (↑c.toNat : Int)) d2.snd.fst).length : Int) < (↑(List.map (fun (c : UInt8) => AV.int IntKind.u8 (↑c.toNat : Int)) d2.snd.fst).length : Int)))
                              (oK (ldRow [Lf.fi IntKind.u8] (List.map (fun (c : UInt8) => AV.int IntKind.u8 (↑c.toNat : Int)) d2.snd.fst) (0 + ((IntKind.i64.wrap (to_.tdiv 256)).tmod (↑(List.map (fun (c : UInt8) => AV.int IntKind.u8 (↑c.toNat : Int)) d2.snd.fst).length : Int)).toNat) 0) fun (d3 : Int) => bK (decide (0 ≤ (IntKind.i64.wrap (to_.tdiv 256)).tmod (↑(List.map (fun (c : UInt8) => AV.int IntKind.u8 (↑c.toNat : Int)) d2.snd.fst).length : Int) ∧ (IntKind.i64.wrap (to_.tdiv 256)).tmod (↑(List.map (fun (c : UInt8) => AV.int IntKind.u8 (↑c.toNat : Int)) d2.snd.fst).length : Int) < (↑(List.map (fun (c : UInt8) => AV.int IntKind.u8 (↑c.toNat : Int)) d2.snd.fst).length : Int))) (oK (stRow (List.map (fun (c : UInt8) => AV.int IntKind.u8 (↑c.toNat : Int)) d2.snd.fst) (0 + ((IntKind.i64.wrap (to_.tdiv 256)).tmod (↑(List.map (fun (c : UInt8) => AV.int IntKind.u8 (↑c.toNat : Int)) d2.snd.fst).length : Int)).toNat) 0 [AV.int IntKind.u8 (IntKind.u8.wrap (↑(BitVec.ofInt 8 d3 ^^^ BitVec.ofInt 8 (IntKind.u8.wrap (to_.tmod 256))).toNat : Int))]) fun (d4 : List AV) => bK (decide (0 + (List.map (fun (c : UInt8) => AV.int IntKind.u8 (↑c.toNat : Int)) d2.snd.fst).length ≤ d4.length)) (oK (bytesOf? (List.take (List.map (fun (c : UInt8) => AV.int IntKind.u8 (↑c.toNat : Int)) d2.snd.fst).length (List.drop 0 d4))) fun (d5 : List UInt8) => bK (decide (0 ≤ i ∧ i < 0)) none none) none) none) none))
                          none)
                        none)
                    (bK (true && bytesFit Try.prog 24 (0 + (List.map (mkV true Gram_tfs) l).length))
                      (oK (elemAt true Gram_tfs (List.map (mkV true Gram_tfs) l) i) fun (d6 : Int × List UInt8 × Bool) =>
                        bK (decide (List.length d6.snd.fst < 1000000000))
                          (bK (decide (0 + (List.map (fun (c : UInt8) => AV.int IntKind.u8 (↑c.toNat : Int)) d6.snd.fst).length ≤ (List.map (fun (c : UInt8) => AV.int IntKind.u8 (↑c.toNat : Int)) d6.snd.fst).length))
                            (bK (decide ((↑(List.map (fun (c : UInt8) => AV.int IntKind.u8 (↑c.toNat : Int)) d6.snd.fst).length : Int) = 0)) none
                              (bK (decide (0 ≤ (IntKind.i64.wrap (to_.tdiv 256)).tmod (↑(List.map (fun (c : UInt8) => AV.int IntKind.u8 (↑c.toNat : Int)) d6.snd.fst).length : Int) ∧ (IntKind.i64.wrap (to_.tdiv 256)).tmod (↑(List.map (fun (c : UInt8) => AV.int IntKind.u8 (↑c.toNat : Int)) d6.snd.fst).length : Int) < (↑(List.map (fun (c : UInt8) => AV.int IntKind.u8 (↑c.toNat : Int)) d6.snd.fst).length : Int)))
                                (oK (ldRow [Lf.fi IntKind.u8] (List.map (fun (c : UInt8) => AV.int IntKind.u8 (↑c.toNat : Int)) d6.snd.fst) (0 + ((IntKind.i64.wrap (to_.tdiv 256)).tmod (↑(List.map (fun (c : UInt8) => AV.int IntKind.u8 (↑c.toNat : Int)) d6.snd.fst).length : Int)).toNat) 0) fun (d7 : Int) =>
                                  bK (decide (0 ≤ (IntKind.i64.wrap (to_.tdiv 256)).tmod (↑(List.map (fun (c : UInt8) => AV.int IntKind.u8 (↑c.toNat : Int)) d6.snd.fst).length : Int) ∧ (IntKind.i64.wrap (to_.tdiv 256)).tmod (↑(List.map (fun (c : UInt8) => AV.int IntKind.u8 (↑c.toNat : Int)) d6.snd.fst).length : Int) < (↑(List.map (fun (c : UInt8) => AV.int IntKind.u8 (↑c.toNat : Int)) d6.snd.fst).length : Int)))
                                    (oK (stRow (List.map (fun (c : UInt8) => AV.int IntKind.u8 (↑c.toNat : Int)) d6.snd.fst) (0 + ((IntKind.i64.wrap (to_.tdiv 256)).tmod (↑(List.map (fun (c : UInt8) => AV.int IntKind.u8 (↑c.toNat : Int)) d6.snd.fst).length : Int)).toNat) 0 [AV.int IntKind.u8 (IntKind.u8.wrap (↑(BitVec.ofInt 8 d7 ^^^ BitVec.ofInt 8 (IntKind.u8.wrap (to_.tmod 256))).toNat : Int))]) fun (d8 : List AV) => bK (decide (0 + (List.map (fun (c : UInt8) => AV.int IntKind.u8 (↑c.toNat : Int)) d6.snd.fst).length ≤ d8.length)) (oK (bytesOf? (List.take (List.map (fun (c : UInt8) => AV.int IntKind.u8 (↑c.toNat : Int)) d6.snd.fst).length (List.drop 0 d8))) fun (d9 : List UInt8) => bK (decide (0 ≤ i ∧ i < (↑(0 + (List.map (mkV true Gram_tfs) l).length) : Int))) (bK (decide (0 + i.toNat < ([] ++ List.map (mkV true Gram_tfs) l).length)) (oK (stRow ([] ++ List.map (mkV true Gram_tfs) l) (0 + i.toNat) 1 [AV.str d9]) fun (d10 : List AV) => bK (decide (0 ≤ i ∧ i < (↑(0 + (List.map (mkV true Gram_tfs) l).length) : Int))) (bK (decide (0 + i.toNat < d10.length)) (oK (stRow d10 (0 + i.toNat) 2 [AV.bool true]) fun (d11 : List AV) => bK (decide (0 + (0 + (List.map (mkV true Gram_tfs) l).length) ≤ d11.length)) (some { pan := false, res := AV.tup [AV.slc false (List.take (0 + (List.map (mkV true Gram_tfs) l).length) (List.drop 0 d11)), AV.bool true], out := [], new := [] }) none) none) none) none) none) none) none)
                                none))
                            none)
                          none)
                      none))
                  none))))))
theorem turnedR_w (l_x : Bool) (l : List Gram_T) (i : Int) (to_ : Int) : unitQ Try.prog cfg PKz LP0 false 16 (groupA turnedR_sh (Tu.mk turnedR_fs ((l_x, l), i, to_))) [] = turnedR_r l_x l i to_ := by kernel_rfl

end Go.Proofs.Ytacpbgkljdgmlaa
