/- A part of the proof: contracts of functions. -/
import Derived.Test.YtkanmigbbpppnaaT2
import Derived.Test.YtkanmigbbpppnaaAbAny

set_option linter.unusedVariables false
set_option linter.unusedSimpArgs false
set_option maxRecDepth 100000
namespace Go.Proofs.Ytkanmigbbpppnaa
open Go Go.Ab
noncomputable def Rt1 : PKs := PKz.add 29 prunedS.pk
theorem Rt1_ok : PKsOk Try.prog Rt1 := PKsOk.anyF PKz_ok 29 prunedS prunedO
noncomputable def Rt2 : PKs := Rt1.add 30 ixiP
theorem Rt2_ok : PKsOk Try.prog Rt2 := PKsOk.any Rt1_ok 30 ixXA _ _ ixiO
noncomputable def Rt3 : PKs := Rt2.add 33 dletsS.pk
theorem Rt3_ok : PKsOk Try.prog Rt3 := PKsOk.anyF Rt2_ok 33 dletsS dletsO
noncomputable def Ru0 : PKs := Rt3.add 35 contS.pk
theorem Ru0_ok : PKsOk Try.prog Ru0 := PKsOk.anyF Rt3_ok 35 contS contO
noncomputable def Ru1 : PKs := Ru0.add 34 dclashS.pk
theorem Ru1_ok : PKsOk Try.prog Ru1 := PKsOk.anyF Ru0_ok 34 dclashS dclashO
def aV : List Wait_T → AV
 | [] => .slc true []
 | x :: r => .sref 560 0 0 ((x :: r).map (mkV true Wait_tfs)).length
def aB : List Wait_T → List (Nat × Blk)
 | [] => []
 | x :: r => [(560, { v := 0, k := .row, fz := false, sz := 4, es := (x :: r).map (mkV true Wait_tfs) })]
def bV : List P2_T → AV
 | [] => .slc true []
 | x :: r => .sref 1008 0 0 ((x :: r).map (mkV true P2_fs)).length
def bB : List P2_T → List (Nat × Blk)
 | [] => []
 | x :: r => [(1008, { v := 0, k := .row, fz := false, sz := 2, es := (x :: r).map (mkV true P2_fs) })]
theorem bV_put {b : List P2_T} (h : b ≠ []) (p : P2_T) : bV (b ++ [p]) = .sref 1008 0 0 ((b.map (mkV true P2_fs)).length + 1) ∧ bB (b ++ [p]) = [(1008, { v := 0, k := .row, fz := false, sz := 2, es := b.map (mkV true P2_fs) ++ [mkV true P2_fs p] })] := by
 cases b with
 | nil => exact absurd rfl h
 | cons x r =>
  constructor
  ·show AV.sref 1008 0 0 (((x :: r) ++ [p]).map (mkV true P2_fs)).length = _
   rw [List.map_append, List.length_append]; rfl
  ·show ([(1008, { v := 0, k := BK.row, fz := false, sz := 2, es := ((x :: r) ++ [p]).map (mkV true P2_fs) })] : List (Nat × Blk)) = _
   rw [List.map_append]; rfl
theorem aV_put {a : List Wait_T} (h : a ≠ []) (p : Wait_T) : aV (a ++ [p]) = .sref 560 0 0 ((a.map (mkV true Wait_tfs)).length + 1) ∧ aB (a ++ [p]) = [(560, { v := 0, k := .row, fz := false, sz := 4, es := List.take (a.map (mkV true Wait_tfs)).length (a.map (mkV true Wait_tfs)) ++ [mkV true Wait_tfs p] })] := by
 cases a with
 | nil => exact absurd rfl h
 | cons x r =>
  constructor
  ·show AV.sref 560 0 0 (((x :: r) ++ [p]).map (mkV true Wait_tfs)).length = _
   rw [List.map_append, List.length_append]; rfl
  ·show ([(560, { v := 0, k := BK.row, fz := false, sz := 4, es := ((x :: r) ++ [p]).map (mkV true Wait_tfs) })] : List (Nat × Blk)) = _
   rw [List.map_append, List.take_length]; rfl
theorem aB_inj {a a' : List Wait_T} {b b' : List P2_T} (h : aB a ++ bB b = aB a' ++ bB b') : a = a' ∧ b = b' := by
 cases a <;> cases a' <;> cases b <;> cases b' <;> simp only [aB, bB, List.nil_append, List.cons_append, List.cons.injEq, Prod.mk.injEq, Blk.mk.injEq, and_true, true_and, List.append_nil, reduceCtorEq, and_false, false_and, Nat.reduceEqDiff] at h
 all_goals first
  | exact ⟨rfl, rfl⟩
  | exact ⟨map_inj (fs := Wait_tfs) rfl h.1, map_inj (fs := P2_fs) rfl h.2⟩
  | exact ⟨map_inj (fs := Wait_tfs) rfl h, rfl⟩
  | exact ⟨rfl, map_inj (fs := P2_fs) rfl h⟩
theorem p2by : Try.prog.bytesOf 41 = 16 := by kernel_rfl
theorem p2fit {n : Nat} (h : n ≤ 1000000) : bytesFit Try.prog 41 n = true := by
 simp only [bytesFit, p2by, decide_eq_true_eq]; omega
theorem wby : Try.prog.bytesOf 25 = 32 := by kernel_rfl
theorem wfit {n : Nat} (h : n ≤ 1000000) : bytesFit Try.prog 25 n = true := by
 simp only [bytesFit, wby, decide_eq_true_eq]; omega
def r4h00 (D : Desk_T) (now : Int) (w : Wait_T) (lx : Bool) (l : List Wait_T) (i : Int) (cx : Bool) (cs : List Int) (k : Int) : St := { fr := [(3, .ptr 48 0 0 0), (4, .ptr 64 0 0 0), (5, .slc true []), (6, .slc true []), (10, .ptr 160 0 0 0), (37, .slc lx (l.map (mkV true Wait_tfs))), (38, .int .i64 ((l.map (mkV true Wait_tfs)).length : Nat)), (39, .int .i64 i), (46, .slc cx (cs.map (mkV false I1_tfs))), (47, .int .i64 ((cs.map (mkV false I1_tfs)).length : Nat)), (48, .int .i64 k)], bs := [(48, boxB [.int .i64 now]), (64, boxB (Tu.mk Desk_tfs D)), (160, boxB (Tu.mk Wait_tfs w))], df := [] }
noncomputable def r4s00 (D : Desk_T) (now : Int) (w : Wait_T) (lx : Bool) (l : List Wait_T) (i : Int) (cx : Bool) (cs : List Int) (k : Int) : Option (St ⊕ (Ex × St)) := stepK Try.prog cfg Ru1 LP0 14 4 (r4h00 D now w lx l i cx cs k)
noncomputable def r4s00_r (D : Desk_T) (now : Int) (w : Wait_T) (lx : Bool) (l : List Wait_T) (i : Int) (cx : Bool) (cs : List Int) (k : Int) : Option (St ⊕ Ex × St) :=
 bK (decide (k < (↑(mi cs).length : Int)))
 (oK (elemAt false I1_tfs (mi cs) k) fun (d0 : Int) =>
 oK (contS.dec [.slc true [], AV.agg [i6 w.2.2.1, i6 d0]] []) fun (d1 : (Bool × List (Int × Int)) × Int × Int) =>
 bK (!inQ d1.1.2 d1.2) (some (.inl (sf [(3, pt 48), (4, pt 64), (5, .slc true []), (6, .sref 1008 0 0 1), (10, pt 160), (37, sl lx l), (38, i6 (↑(mW l).length : Int)), (39, i6 i), (46, .slc cx (mi cs)), (47, i6 (↑(mi cs).length : Int)), (48, i6 (IntKind.i64.wrap (k + 1)))] [(48, (bx [i6 now])), (64, (bx [sl D.1.1 D.1.2, sl D.2.1 D.2.2])), (160, (bx [i6 w.1, i6 w.2.1, i6 w.2.2.1, i6 w.2.2.2])), (1008, { v := 0, k := .row, fz := false, sz := 2, es := [AV.agg [i6 w.2.2.1, i6 d0]] })])))
 (some (.inl (sf [(3, pt 48), (4, pt 64), (5, .slc true []), (6, .slc true []), (10, pt 160), (37, sl lx l), (38, i6 (↑(mW l).length : Int)), (39, i6 i), (46, .slc cx (mi cs)), (47, i6 (↑(mi cs).length : Int)), (48, i6 (IntKind.i64.wrap (k + 1)))] [(48, (bx [i6 now])), (64, (bx [sl D.1.1 D.1.2, sl D.2.1 D.2.2])), (160, (bx [i6 w.1, i6 w.2.1, i6 w.2.2.1, i6 w.2.2.2]))]))))
 (some (.inr (.exit 4, (sf [(3, pt 48), (4, pt 64), (5, .slc true []), (6, .slc true []), (37, sl lx l), (38, i6 (↑(mW l).length : Int)), (39, i6 i)] [(48, (bx [i6 now])), (64, (bx [sl D.1.1 D.1.2, sl D.2.1 D.2.2]))]))))
theorem r4s00_w (D : Desk_T) (now : Int) (w : Wait_T) (lx : Bool) (l : List Wait_T) (i : Int) (cx : Bool) (cs : List Int) (k : Int) : r4s00 D now w lx l i cx cs k = r4s00_r D now w lx l i cx cs k := by kernel_rfl

def r4h01 (D : Desk_T) (now : Int) (w : Wait_T) (lx : Bool) (l : List Wait_T) (i : Int) (cx : Bool) (cs : List Int) (k : Int) (b : List P2_T) : St := { fr := [(3, .ptr 48 0 0 0), (4, .ptr 64 0 0 0), (5, .slc true []), (6, .sref 1008 0 0 (b.map (mkV true P2_fs)).length), (10, .ptr 160 0 0 0), (37, .slc lx (l.map (mkV true Wait_tfs))), (38, .int .i64 ((l.map (mkV true Wait_tfs)).length : Nat)), (39, .int .i64 i), (46, .slc cx (cs.map (mkV false I1_tfs))), (47, .int .i64 ((cs.map (mkV false I1_tfs)).length : Nat)), (48, .int .i64 k)], bs := [(48, boxB [.int .i64 now]), (64, boxB (Tu.mk Desk_tfs D)), (160, boxB (Tu.mk Wait_tfs w)), (1008, { v := 0, k := .row, fz := false, sz := 2, es := b.map (mkV true P2_fs) })], df := [] }
noncomputable def r4s01 (D : Desk_T) (now : Int) (w : Wait_T) (lx : Bool) (l : List Wait_T) (i : Int) (cx : Bool) (cs : List Int) (k : Int) (b : List P2_T) : Option (St ⊕ (Ex × St)) := stepK Try.prog cfg Ru1 LP0 14 4 (r4h01 D now w lx l i cx cs k b)
noncomputable def r4s01_r (D : Desk_T) (now : Int) (w : Wait_T) (lx : Bool) (l : List Wait_T) (i : Int) (cx : Bool) (cs : List Int) (k : Int) (b : List P2_T) : Option (St ⊕ Ex × St) :=
 bK (decide (k < (↑(mi cs).length : Int)))
 (oK (elemAt false I1_tfs (mi cs) k) fun (d0 : Int) =>
 bK (decide (0 + (m2 b).length ≤ (m2 b).length))
 (oK (contS.dec [.slc false (List.take (m2 b).length (List.drop 0 (m2 b))), AV.agg [i6 w.2.2.1, i6 d0]] []) fun (d1 : (Bool × List (Int × Int)) × Int × Int) =>
 bK (!inQ d1.1.2 d1.2)
 (bK (decide (0 + (m2 b).length ≤ (m2 b).length))
 (bK (decide (0 = 0 ∧ (m2 b).length = (m2 b).length) && bytesFit Try.prog 41 ((m2 b).length + 1))
 (some (.inl (sf [(3, pt 48), (4, pt 64), (5, .slc true []), (6, .sref 1008 0 0 ((m2 b).length + 1)), (10, pt 160), (37, sl lx l), (38, i6 (↑(mW l).length : Int)), (39, i6 i), (46, .slc cx (mi cs)), (47, i6 (↑(mi cs).length : Int)), (48, i6 (IntKind.i64.wrap (k + 1)))] [(48, (bx [i6 now])), (64, (bx [sl D.1.1 D.1.2, sl D.2.1 D.2.2])), (160, (bx [i6 w.1, i6 w.2.1, i6 w.2.2.1, i6 w.2.2.2])), (1008, { v := 0, k := .row, fz := false, sz := 2, es := List.take (m2 b).length (m2 b) ++ [AV.agg [i6 w.2.2.1, i6 d0]] })]))) none)
 none)
 (some (.inl (sf [(3, pt 48), (4, pt 64), (5, .slc true []), (6, .sref 1008 0 0 (m2 b).length), (10, pt 160), (37, sl lx l), (38, i6 (↑(mW l).length : Int)), (39, i6 i), (46, .slc cx (mi cs)), (47, i6 (↑(mi cs).length : Int)), (48, i6 (IntKind.i64.wrap (k + 1)))] [(48, (bx [i6 now])), (64, (bx [sl D.1.1 D.1.2, sl D.2.1 D.2.2])), (160, (bx [i6 w.1, i6 w.2.1, i6 w.2.2.1, i6 w.2.2.2])), (1008, { v := 0, k := .row, fz := false, sz := 2, es := m2 b })]))))
 none)
 (some (.inr (.exit 4, (sf [(3, pt 48), (4, pt 64), (5, .slc true []), (6, .sref 1008 0 0 (m2 b).length), (37, sl lx l), (38, i6 (↑(mW l).length : Int)), (39, i6 i)] [(48, (bx [i6 now])), (64, (bx [sl D.1.1 D.1.2, sl D.2.1 D.2.2])), (1008, { v := 0, k := .row, fz := false, sz := 2, es := m2 b })]))))
theorem r4s01_w (D : Desk_T) (now : Int) (w : Wait_T) (lx : Bool) (l : List Wait_T) (i : Int) (cx : Bool) (cs : List Int) (k : Int) (b : List P2_T) : r4s01 D now w lx l i cx cs k b = r4s01_r D now w lx l i cx cs k b := by kernel_rfl

def r4h10 (D : Desk_T) (now : Int) (w : Wait_T) (lx : Bool) (l : List Wait_T) (i : Int) (cx : Bool) (cs : List Int) (k : Int) (a : List Wait_T) : St := { fr := [(3, .ptr 48 0 0 0), (4, .ptr 64 0 0 0), (5, .sref 560 0 0 (a.map (mkV true Wait_tfs)).length), (6, .slc true []), (10, .ptr 160 0 0 0), (37, .slc lx (l.map (mkV true Wait_tfs))), (38, .int .i64 ((l.map (mkV true Wait_tfs)).length : Nat)), (39, .int .i64 i), (46, .slc cx (cs.map (mkV false I1_tfs))), (47, .int .i64 ((cs.map (mkV false I1_tfs)).length : Nat)), (48, .int .i64 k)], bs := [(48, boxB [.int .i64 now]), (64, boxB (Tu.mk Desk_tfs D)), (160, boxB (Tu.mk Wait_tfs w)), (560, { v := 0, k := .row, fz := false, sz := 4, es := a.map (mkV true Wait_tfs) })], df := [] }
noncomputable def r4s10 (D : Desk_T) (now : Int) (w : Wait_T) (lx : Bool) (l : List Wait_T) (i : Int) (cx : Bool) (cs : List Int) (k : Int) (a : List Wait_T) : Option (St ⊕ (Ex × St)) := stepK Try.prog cfg Ru1 LP0 14 4 (r4h10 D now w lx l i cx cs k a)
noncomputable def r4s10_r (D : Desk_T) (now : Int) (w : Wait_T) (lx : Bool) (l : List Wait_T) (i : Int) (cx : Bool) (cs : List Int) (k : Int) (a : List Wait_T) : Option (St ⊕ Ex × St) :=
 bK (decide (k < (↑(mi cs).length : Int)))
 (oK (elemAt false I1_tfs (mi cs) k) fun (d0 : Int) =>
 oK (contS.dec [.slc true [], AV.agg [i6 w.2.2.1, i6 d0]] []) fun (d1 : (Bool × List (Int × Int)) × Int × Int) =>
 bK (!inQ d1.1.2 d1.2) (some (.inl (sf [(3, pt 48), (4, pt 64), (5, .sref 560 0 0 (mW a).length), (6, .sref 1008 0 0 1), (10, pt 160), (37, sl lx l), (38, i6 (↑(mW l).length : Int)), (39, i6 i), (46, .slc cx (mi cs)), (47, i6 (↑(mi cs).length : Int)), (48, i6 (IntKind.i64.wrap (k + 1)))] [(48, (bx [i6 now])), (64, (bx [sl D.1.1 D.1.2, sl D.2.1 D.2.2])), (160, (bx [i6 w.1, i6 w.2.1, i6 w.2.2.1, i6 w.2.2.2])), (560, (rw4 a)), (1008, { v := 0, k := .row, fz := false, sz := 2, es := [AV.agg [i6 w.2.2.1, i6 d0]] })])))
 (some (.inl (sf [(3, pt 48), (4, pt 64), (5, .sref 560 0 0 (mW a).length), (6, .slc true []), (10, pt 160), (37, sl lx l), (38, i6 (↑(mW l).length : Int)), (39, i6 i), (46, .slc cx (mi cs)), (47, i6 (↑(mi cs).length : Int)), (48, i6 (IntKind.i64.wrap (k + 1)))] [(48, (bx [i6 now])), (64, (bx [sl D.1.1 D.1.2, sl D.2.1 D.2.2])), (160, (bx [i6 w.1, i6 w.2.1, i6 w.2.2.1, i6 w.2.2.2])), (560, (rw4 a))]))))
 (some (.inr (.exit 4, (sf [(3, pt 48), (4, pt 64), (5, .sref 560 0 0 (mW a).length), (6, .slc true []), (37, sl lx l), (38, i6 (↑(mW l).length : Int)), (39, i6 i)] [(48, (bx [i6 now])), (64, (bx [sl D.1.1 D.1.2, sl D.2.1 D.2.2])), (560, (rw4 a))]))))
theorem r4s10_w (D : Desk_T) (now : Int) (w : Wait_T) (lx : Bool) (l : List Wait_T) (i : Int) (cx : Bool) (cs : List Int) (k : Int) (a : List Wait_T) : r4s10 D now w lx l i cx cs k a = r4s10_r D now w lx l i cx cs k a := by kernel_rfl

def r4h11 (D : Desk_T) (now : Int) (w : Wait_T) (lx : Bool) (l : List Wait_T) (i : Int) (cx : Bool) (cs : List Int) (k : Int) (a : List Wait_T) (b : List P2_T) : St := { fr := [(3, .ptr 48 0 0 0), (4, .ptr 64 0 0 0), (5, .sref 560 0 0 (a.map (mkV true Wait_tfs)).length), (6, .sref 1008 0 0 (b.map (mkV true P2_fs)).length), (10, .ptr 160 0 0 0), (37, .slc lx (l.map (mkV true Wait_tfs))), (38, .int .i64 ((l.map (mkV true Wait_tfs)).length : Nat)), (39, .int .i64 i), (46, .slc cx (cs.map (mkV false I1_tfs))), (47, .int .i64 ((cs.map (mkV false I1_tfs)).length : Nat)), (48, .int .i64 k)], bs := [(48, boxB [.int .i64 now]), (64, boxB (Tu.mk Desk_tfs D)), (160, boxB (Tu.mk Wait_tfs w)), (560, { v := 0, k := .row, fz := false, sz := 4, es := a.map (mkV true Wait_tfs) }), (1008, { v := 0, k := .row, fz := false, sz := 2, es := b.map (mkV true P2_fs) })], df := [] }
noncomputable def r4s11 (D : Desk_T) (now : Int) (w : Wait_T) (lx : Bool) (l : List Wait_T) (i : Int) (cx : Bool) (cs : List Int) (k : Int) (a : List Wait_T) (b : List P2_T) : Option (St ⊕ (Ex × St)) := stepK Try.prog cfg Ru1 LP0 14 4 (r4h11 D now w lx l i cx cs k a b)
noncomputable def r4s11_r (D : Desk_T) (now : Int) (w : Wait_T) (lx : Bool) (l : List Wait_T) (i : Int) (cx : Bool) (cs : List Int) (k : Int) (a : List Wait_T) (b : List P2_T) : Option (St ⊕ Ex × St) :=
 bK (decide (k < (↑(mi cs).length : Int)))
 (oK (elemAt false I1_tfs (mi cs) k) fun (d0 : Int) =>
 bK (decide (0 + (m2 b).length ≤ (m2 b).length))
 (oK (contS.dec [.slc false (List.take (m2 b).length (List.drop 0 (m2 b))), AV.agg [i6 w.2.2.1, i6 d0]] []) fun (d1 : (Bool × List (Int × Int)) × Int × Int) =>
 bK (!inQ d1.1.2 d1.2)
 (bK (decide (0 + (m2 b).length ≤ (m2 b).length))
 (bK (decide (0 = 0 ∧ (m2 b).length = (m2 b).length) && bytesFit Try.prog 41 ((m2 b).length + 1))
 (some (.inl (sf [(3, pt 48), (4, pt 64), (5, .sref 560 0 0 (mW a).length), (6, .sref 1008 0 0 ((m2 b).length + 1)), (10, pt 160), (37, sl lx l), (38, i6 (↑(mW l).length : Int)), (39, i6 i), (46, .slc cx (mi cs)), (47, i6 (↑(mi cs).length : Int)), (48, i6 (IntKind.i64.wrap (k + 1)))] [(48, (bx [i6 now])), (64, (bx [sl D.1.1 D.1.2, sl D.2.1 D.2.2])), (160, (bx [i6 w.1, i6 w.2.1, i6 w.2.2.1, i6 w.2.2.2])), (560, (rw4 a)), (1008, { v := 0, k := .row, fz := false, sz := 2, es := List.take (m2 b).length (m2 b) ++ [AV.agg [i6 w.2.2.1, i6 d0]] })]))) none)
 none)
 (some (.inl (sf [(3, pt 48), (4, pt 64), (5, .sref 560 0 0 (mW a).length), (6, .sref 1008 0 0 (m2 b).length), (10, pt 160), (37, sl lx l), (38, i6 (↑(mW l).length : Int)), (39, i6 i), (46, .slc cx (mi cs)), (47, i6 (↑(mi cs).length : Int)), (48, i6 (IntKind.i64.wrap (k + 1)))] [(48, (bx [i6 now])), (64, (bx [sl D.1.1 D.1.2, sl D.2.1 D.2.2])), (160, (bx [i6 w.1, i6 w.2.1, i6 w.2.2.1, i6 w.2.2.2])), (560, (rw4 a)), (1008, { v := 0, k := .row, fz := false, sz := 2, es := m2 b })]))))
 none)
 (some (.inr (.exit 4, (sf [(3, pt 48), (4, pt 64), (5, .sref 560 0 0 (mW a).length), (6, .sref 1008 0 0 (m2 b).length), (37, sl lx l), (38, i6 (↑(mW l).length : Int)), (39, i6 i)] [(48, (bx [i6 now])), (64, (bx [sl D.1.1 D.1.2, sl D.2.1 D.2.2])), (560, (rw4 a)), (1008, { v := 0, k := .row, fz := false, sz := 2, es := m2 b })]))))
theorem r4s11_w (D : Desk_T) (now : Int) (w : Wait_T) (lx : Bool) (l : List Wait_T) (i : Int) (cx : Bool) (cs : List Int) (k : Int) (a : List Wait_T) (b : List P2_T) : r4s11 D now w lx l i cx cs k a b = r4s11_r D now w lx l i cx cs k a b := by kernel_rfl

def hh4 (D : Desk_T) (now : Int) (w : Wait_T) (lx : Bool) (l : List Wait_T) (i : Int) (cx : Bool) (cs : List Int) (k : Int) (a : List Wait_T) (b : List P2_T) : St := { fr := [(3, .ptr 48 0 0 0), (4, .ptr 64 0 0 0), (5, aV a), (6, bV b), (10, .ptr 160 0 0 0), (37, .slc lx (l.map (mkV true Wait_tfs))), (38, .int .i64 ((l.map (mkV true Wait_tfs)).length : Nat)), (39, .int .i64 i), (46, .slc cx (cs.map (mkV false I1_tfs))), (47, .int .i64 ((cs.map (mkV false I1_tfs)).length : Nat)), (48, .int .i64 k)], bs := (48, boxB [.int .i64 now]) :: (64, boxB (Tu.mk Desk_tfs D)) :: (160, boxB (Tu.mk Wait_tfs w)) :: (aB a ++ bB b), df := [] }
def hh2 (D : Desk_T) (now : Int) (lx : Bool) (l : List Wait_T) (i : Int) (a : List Wait_T) (b : List P2_T) : St := { fr := [(3, .ptr 48 0 0 0), (4, .ptr 64 0 0 0), (5, aV a), (6, bV b), (37, .slc lx (l.map (mkV true Wait_tfs))), (38, .int .i64 ((l.map (mkV true Wait_tfs)).length : Nat)), (39, .int .i64 i)], bs := (48, boxB [.int .i64 now]) :: (64, boxB (Tu.mk Desk_tfs D)) :: (aB a ++ bB b), df := [] }
def putC (b : List P2_T) (p : P2_T) : List P2_T := if inQ b p = true then b else b ++ [p]
def putsC (b : List P2_T) (f : Int) (cs : List Int) : List P2_T := cs.foldl (fun b c => putC b (f, c)) b
theorem putC_len (b : List P2_T) (p : P2_T) : (putC b p).length ≤ b.length + 1 := by
 unfold putC
 split <;> simp
theorem putsC_len (f : Int) : ∀ (cs : List Int) (b : List P2_T), (putsC b f cs).length ≤ b.length + cs.length
 | [], b => Nat.le_refl _
 | c :: r, b => by
  have h1 := putsC_len f r (putC b (f, c))
  have h2 := putC_len b (f, c)
  show (putsC (putC b (f, c)) f r).length ≤ b.length + (r.length + 1)
  omega
theorem r4_e (D : Desk_T) (now : Int) (w : Wait_T) (lx : Bool) (l : List Wait_T) (i : Int) (cx : Bool) (cs : List Int) (k : Nat) (a : List Wait_T) (b : List P2_T) (hk : k < cs.length) (hc : cs.length ≤ 1000) (hb : b.length ≤ 10000) : stepK Try.prog cfg Ru1 LP0 14 4 (hh4 D now w lx l i cx cs k a b) = some (.inl (hh4 D now w lx l i cx cs ((k + 1 : Nat) : Int) a (putC b (w.2.2.1, cs[k])))) := by
 have e1 : IntKind.i64.wrap ((k : Int) + 1) = ((k + 1 : Nat) : Int) := by rw [w64 (by omega) (by omega)]; omega
 have e2 : cs.getD (k : Int).toNat 0 = cs[k] := by rw [Int.toNat_natCast, getD_at hk]
 have at_ : ∀ {Q : Option (St ⊕ (Ex × St)) → Prop} {g : Int → Option (St ⊕ (Ex × St))}, Q (g cs[k]) → Q (oK (elemAt false I1_tfs (cs.map (mkV false I1_tfs)) k) g) := fun hg => oK_atq (fs := I1_tfs) (0 : Int) (by omega) (by simpa using hk) (by rw [e2]; exact hg)
 have hin : ∀ p, inQ [] p = false := fun p => rfl
 have hT : ∀ {b : List P2_T} {p : P2_T}, inQ b p = true → putC b p = b := fun h => if_pos h
 have hF : ∀ {b : List P2_T} {p : P2_T}, inQ b p = false → putC b p = b ++ [p] := fun h => if_neg (by rw [h]; simp)
 cases a with
 | nil =>
  cases b with
  | nil =>
   show r4s00 D now w lx l i cx cs k = _
   refine (r4s00_w D now w lx l i cx cs k).trans ?_
   unfold r4s00_r
   refine bK_tq (Q := (· = _)) (by simp; omega) ?_
   rw [e1]
   refine at_ (Q := (· = _)) ?_
   refine oK_fsq (Q := (· = _)) contS ((true, []), (w.2.2.1, cs[k])) (by show 0 ≤ 100000; decide) ?_
   rw [hF (hin _)]
   exact bK_tq (Q := (· = _)) (by rw [hin]; rfl) rfl
  | cons b0 br =>
   show r4s01 D now w lx l i cx cs k (b0 :: br) = _
   refine (r4s01_w D now w lx l i cx cs k (b0 :: br)).trans ?_
   unfold r4s01_r
   refine bK_tq (Q := (· = _)) (by simp; omega) ?_
   rw [e1]
   refine at_ (Q := (· = _)) ?_
   refine bK_tq (Q := (· = _)) (by simp) ?_
   rw [List.drop_zero, List.take_length]
   refine oK_fsq (Q := (· = _)) contS ((false, b0 :: br), (w.2.2.1, cs[k])) (Nat.le_trans hb (by decide)) ?_
   dsimp only
   cases hq : inQ (b0 :: br) (w.2.2.1, cs[k]) with
   | true => rw [hT hq]; rfl
   | false =>
    rw [hF hq]
    refine bK_tq (Q := (· = _)) rfl (bK_tq (Q := (· = _)) (by simp) (bK_tq (Q := (· = _)) (by rw [Bool.and_eq_true]; exact ⟨by simp, p2fit (by rw [List.length_map]; omega)⟩) ?_))
    unfold hh4
    rw [(bV_put (by simp) _).1, (bV_put (by simp) _).2]
    rfl
 | cons a0 ar =>
  cases b with
  | nil =>
   show r4s10 D now w lx l i cx cs k (a0 :: ar) = _
   refine (r4s10_w D now w lx l i cx cs k (a0 :: ar)).trans ?_
   unfold r4s10_r
   refine bK_tq (Q := (· = _)) (by simp; omega) ?_
   rw [e1]
   refine at_ (Q := (· = _)) ?_
   refine oK_fsq (Q := (· = _)) contS ((true, []), (w.2.2.1, cs[k])) (by show 0 ≤ 100000; decide) ?_
   rw [hF (hin _)]
   exact bK_tq (Q := (· = _)) (by rw [hin]; rfl) rfl
  | cons b0 br =>
   show r4s11 D now w lx l i cx cs k (a0 :: ar) (b0 :: br) = _
   refine (r4s11_w D now w lx l i cx cs k (a0 :: ar) (b0 :: br)).trans ?_
   unfold r4s11_r
   refine bK_tq (Q := (· = _)) (by simp; omega) ?_
   rw [e1]
   refine at_ (Q := (· = _)) ?_
   refine bK_tq (Q := (· = _)) (by simp) ?_
   rw [List.drop_zero, List.take_length]
   refine oK_fsq (Q := (· = _)) contS ((false, b0 :: br), (w.2.2.1, cs[k])) (Nat.le_trans hb (by decide)) ?_
   dsimp only
   cases hq : inQ (b0 :: br) (w.2.2.1, cs[k]) with
   | true => rw [hT hq]; rfl
   | false =>
    rw [hF hq]
    refine bK_tq (Q := (· = _)) rfl (bK_tq (Q := (· = _)) (by simp) (bK_tq (Q := (· = _)) (by rw [Bool.and_eq_true]; exact ⟨by simp, p2fit (by rw [List.length_map]; omega)⟩) ?_))
    unfold hh4
    rw [(bV_put (by simp) _).1, (bV_put (by simp) _).2]
    rfl
theorem rl14 : (loopsOf 0 (codeOf Try.prog 14)).map (·.1) = [0, 2, 4] := by kernel_rfl
theorem ro14 : OneLoops Try.prog 14 := by unfold OneLoops; rw [rl14]; decide
theorem ra140 : At 0 (codeOf Try.prog 14) 0 (.loop (bodyAt Try.prog 14 0)) := at_body ro14 (by rw [rl14]; decide)
theorem ra142 : At 0 (codeOf Try.prog 14) 2 (.loop (bodyAt Try.prog 14 2)) := at_body ro14 (by rw [rl14]; decide)
theorem ra144 : At 0 (codeOf Try.prog 14) 4 (.loop (bodyAt Try.prog 14 4)) := at_body ro14 (by rw [rl14]; decide)
theorem r4_x (D : Desk_T) (now : Int) (w : Wait_T) (lx : Bool) (l : List Wait_T) (i : Int) (cx : Bool) (cs : List Int) (k : Int) (a : List Wait_T) (b : List P2_T) (hk : ¬ k < (cs.length : Int)) : stepK Try.prog cfg Ru1 LP0 14 4 (hh4 D now w lx l i cx cs k a b) = some (.inr (.exit 4, hh2 D now lx l i a b)) := by
 cases a with
 | nil =>
  cases b with
  | nil =>
   refine (r4s00_w D now w lx l i cx cs k).trans ?_
   unfold r4s00_r
   exact bK_neg (by rw [List.length_map]; exact decide_eq_false hk)
  | cons b0 br =>
   refine (r4s01_w D now w lx l i cx cs k (b0 :: br)).trans ?_
   unfold r4s01_r
   exact bK_neg (by rw [List.length_map]; exact decide_eq_false hk)
 | cons a0 ar =>
  cases b with
  | nil =>
   refine (r4s10_w D now w lx l i cx cs k (a0 :: ar)).trans ?_
   unfold r4s10_r
   exact bK_neg (by rw [List.length_map]; exact decide_eq_false hk)
  | cons b0 br =>
   refine (r4s11_w D now w lx l i cx cs k (a0 :: ar) (b0 :: br)).trans ?_
   unfold r4s11_r
   exact bK_neg (by rw [List.length_map]; exact decide_eq_false hk)
theorem r4_run (D : Desk_T) (now : Int) (w : Wait_T) (lx : Bool) (l : List Wait_T) (i : Int) (cx : Bool) (cs : List Int) (a : List Wait_T) (hc : cs.length ≤ 1000) : ∀ (j k : Nat), k + j = cs.length → ∀ (b : List P2_T), b.length + j ≤ 10000 → ∀ (fu : Nat), j < fu → Runs' Try.prog cfg Ru1 14 4 fu (hh4 D now w lx l i cx cs k a b) (.exit 4, hh2 D now lx l i a (putsC b w.2.2.1 (cs.drop k)))
 | 0, k, hk, b, hb, fu + 1, hf => by
  rw [List.drop_of_length_le (by omega)]
  exact Runs'.done (lp := LP0) LPok.none ra144 (r4_x D now w lx l i cx cs k a b (by omega))
 | j + 1, k, hk, b, hb, fu + 1, hf => by
  have hk' : k < cs.length := by omega
  have e : cs.drop k = cs[k] :: cs.drop (k + 1) := List.drop_eq_getElem_cons hk'
  have := putC_len b (w.2.2.1, cs[k])
  have hr := r4_run D now w lx l i cx cs a hc j (k + 1) (by omega) (putC b (w.2.2.1, cs[k])) (by omega) fu (by omega)
  rw [e]
  exact Runs'.step (lp := LP0) LPok.none ra144 (r4_e D now w lx l i cx cs k a b hk' hc (by omega)) hr
abbrev R4D : Type := (Desk_T × Int × Wait_T) × ((Bool × List Wait_T) × Int) × (Bool × List Int) × List Wait_T × List P2_T
def r4Hd (d : R4D) : St := hh4 d.1.1 d.1.2.1 d.1.2.2 d.2.1.1.1 d.2.1.1.2 d.2.1.2 d.2.2.1.1 d.2.2.1.2 0 d.2.2.2.1 d.2.2.2.2
theorem r4Hd_inj (d d' : R4D) (h : r4Hd d = r4Hd d') : d = d' := by
 obtain ⟨⟨D, now, w⟩, ⟨⟨lx, l⟩, i⟩, ⟨cx, cs⟩, a, b⟩ := d
 obtain ⟨⟨D', now', w'⟩, ⟨⟨lx', l'⟩, i'⟩, ⟨cx', cs'⟩, a', b'⟩ := d'
 simp only [r4Hd, hh4, boxB, St.mk.injEq, List.cons.injEq, Prod.mk.injEq, AV.slc.injEq, AV.int.injEq, Blk.mk.injEq, and_true, true_and] at h
 obtain ⟨⟨_, _, ⟨h1, h2⟩, _, h3, ⟨h4, h5⟩, _⟩, h6, h7, h8, h9⟩ := h
 obtain ⟨h10, h11⟩ := aB_inj h9
 rw [h1, map_inj (fs := Wait_tfs) rfl h2, h3, h4, map_inj (agg := false) (fs := I1_tfs) rfl h5, h6, mk_inj (fs := Desk_tfs) rfl h7, mk_inj (fs := Wait_tfs) rfl h8, h10, h11]
def noW (a : List Wait_T) : Bool := a.isEmpty
def noP (b : List P2_T) : Bool := b.isEmpty
def putsQ (b : List P2_T) (f : Int) (cs : List Int) : List P2_T := putsC b f cs
noncomputable def r4L : LP := LP.of r4Hd (fun d => d.2.2.1.2.length ≤ 1000 ∧ d.2.2.2.2.length ≤ 5000) fun d => .ite (noW d.2.2.2.1) (.ite (noP (putsQ d.2.2.2.2 d.1.2.2.2.2.1 d.2.2.1.2)) (.leaf (.exit 4, { fr := [(3, .ptr 48 0 0 0), (4, .ptr 64 0 0 0), (5, .slc true []), (6, .slc true []), (37, .slc d.2.1.1.1 (d.2.1.1.2.map (mkV true Wait_tfs))), (38, .int .i64 ((d.2.1.1.2.map (mkV true Wait_tfs)).length : Nat)), (39, .int .i64 d.2.1.2)], bs := [(48, boxB [.int .i64 d.1.2.1]), (64, boxB (Tu.mk Desk_tfs d.1.1))], df := [] })) (.leaf (.exit 4, { fr := [(3, .ptr 48 0 0 0), (4, .ptr 64 0 0 0), (5, .slc true []), (6, .sref 1008 0 0 ((putsQ d.2.2.2.2 d.1.2.2.2.2.1 d.2.2.1.2).map (mkV true P2_fs)).length), (37, .slc d.2.1.1.1 (d.2.1.1.2.map (mkV true Wait_tfs))), (38, .int .i64 ((d.2.1.1.2.map (mkV true Wait_tfs)).length : Nat)), (39, .int .i64 d.2.1.2)], bs := [(48, boxB [.int .i64 d.1.2.1]), (64, boxB (Tu.mk Desk_tfs d.1.1)), (1008, { v := 0, k := .row, fz := false, sz := 2, es := (putsQ d.2.2.2.2 d.1.2.2.2.2.1 d.2.2.1.2).map (mkV true P2_fs) })], df := [] }))) (.ite (noP (putsQ d.2.2.2.2 d.1.2.2.2.2.1 d.2.2.1.2)) (.leaf (.exit 4, { fr := [(3, .ptr 48 0 0 0), (4, .ptr 64 0 0 0), (5, .sref 560 0 0 (d.2.2.2.1.map (mkV true Wait_tfs)).length), (6, .slc true []), (37, .slc d.2.1.1.1 (d.2.1.1.2.map (mkV true Wait_tfs))), (38, .int .i64 ((d.2.1.1.2.map (mkV true Wait_tfs)).length : Nat)), (39, .int .i64 d.2.1.2)], bs := [(48, boxB [.int .i64 d.1.2.1]), (64, boxB (Tu.mk Desk_tfs d.1.1)), (560, { v := 0, k := .row, fz := false, sz := 4, es := d.2.2.2.1.map (mkV true Wait_tfs) })], df := [] })) (.leaf (.exit 4, { fr := [(3, .ptr 48 0 0 0), (4, .ptr 64 0 0 0), (5, .sref 560 0 0 (d.2.2.2.1.map (mkV true Wait_tfs)).length), (6, .sref 1008 0 0 ((putsQ d.2.2.2.2 d.1.2.2.2.2.1 d.2.2.1.2).map (mkV true P2_fs)).length), (37, .slc d.2.1.1.1 (d.2.1.1.2.map (mkV true Wait_tfs))), (38, .int .i64 ((d.2.1.1.2.map (mkV true Wait_tfs)).length : Nat)), (39, .int .i64 d.2.1.2)], bs := [(48, boxB [.int .i64 d.1.2.1]), (64, boxB (Tu.mk Desk_tfs d.1.1)), (560, { v := 0, k := .row, fz := false, sz := 4, es := d.2.2.2.1.map (mkV true Wait_tfs) }), (1008, { v := 0, k := .row, fz := false, sz := 2, es := (putsQ d.2.2.2.2 d.1.2.2.2.2.1 d.2.2.1.2).map (mkV true P2_fs) })], df := [] })))
noncomputable def r4P : LPs := LPs.add LP0 14 4 r4L
theorem ite_hh2 {R : Type} {p q : Bool} {x00 x01 x10 x11 : R} : (Alt.ite p (.ite q (.leaf x00) (.leaf x01)) (.ite q (.leaf x10) (.leaf x11))).val = if p = true then (if q = true then x00 else x01) else (if q = true then x10 else x11) := by cases p <;> cases q <;> rfl
theorem r4P_ok : LPok Try.prog cfg Ru1 r4P 14 := LPok.addH LPok.none ro14 (by
 rintro ⟨⟨D, now, w⟩, ⟨⟨lx, l⟩, i⟩, ⟨cx, cs⟩, a, b⟩ ⟨h1, h2⟩
 simp only at h1 h2
 have hr := r4_run D now w lx l i cx cs a h1 cs.length 0 (by omega) b (by omega) rounds (by simp only [rounds]; omega)
 rw [List.drop_zero] at hr
 refine cast ?_ hr
 congr 1
 have e : putsQ b w.2.2.1 cs = putsC b w.2.2.1 cs := rfl
 dsimp only
 rw [ite_hh2, e]
 cases a with
 | nil => cases putsC b w.2.2.1 cs with
  | nil => rfl
  | cons b0 br => rfl
 | cons a0 ar => cases putsC b w.2.2.1 cs with
  | nil => rfl
  | cons b0 br => rfl)

end Go.Proofs.Ytkanmigbbpppnaa
