/- A part of the proof: contracts of functions. -/
import Derived.Test.YtkanmigbbpppnaaU2
import Derived.Test.YtkanmigbbpppnaaAbAny

set_option linter.unusedVariables false
set_option linter.unusedSimpArgs false
set_option maxRecDepth 100000
namespace Go.Proofs.Ytkanmigbbpppnaa
open Go Go.Ab
def r2h00 (D : Desk_T) (now : Int) (lx : Bool) (l : List Wait_T) (i : Int) : St := { fr := [(3, .ptr 48 0 0 0), (4, .ptr 64 0 0 0), (5, .slc true []), (6, .slc true []), (37, .slc lx (l.map (mkV true Wait_tfs))), (38, .int .i64 ((l.map (mkV true Wait_tfs)).length : Nat)), (39, .int .i64 i)], bs := [(48, boxB [.int .i64 now]), (64, boxB (Tu.mk Desk_tfs D))], df := [] }
noncomputable def r2s00 (D : Desk_T) (now : Int) (lx : Bool) (l : List Wait_T) (i : Int) : Option (St ⊕ (Ex × St)) := stepK Try.prog cfg Ru1 r4P 14 2 (r2h00 D now lx l i)
noncomputable def r2s00_r (D : Desk_T) (now : Int) (lx : Bool) (l : List Wait_T) (i : Int) : Option (St ⊕ Ex × St) :=
 bK (decide (i < (↑(mW l).length : Int)))
 (oK (elemAt true Wait_tfs (mW l) i) fun (d0 : Int × Int × Int × Int) =>
 oK (dclashS.dec [AV.agg [sl D.1.1 D.1.2, sl D.2.1 D.2.2], i6 now, AV.agg [i6 d0.1, i6 d0.2.1, i6 d0.2.2.1, i6 d0.2.2.2]] []) fun (d1 : LW × LW × Int × Int × Int × Int × Int) =>
 oK (r4L.dec (sf [(3, pt 48), (4, pt 64), (5, .slc true []), (6, .slc true []), (10, pt 160), (37, sl lx l), (38, i6 (↑(mW l).length : Int)), (39, i6 i), (46, .slc (csF d1.1.2 d1.2.2.1 d1.2.2.2.1 d1.2.2.2.2.2.1 d1.2.2.2.2.2.2).isEmpty (mi (csF d1.1.2 d1.2.2.1 d1.2.2.2.1 d1.2.2.2.2.2.1 d1.2.2.2.2.2.2))), (47, i6 (↑(mi (csF d1.1.2 d1.2.2.1 d1.2.2.2.1 d1.2.2.2.2.2.1 d1.2.2.2.2.2.2)).length : Int)), (48, i6 0)] [(48, (bx [i6 now])), (64, (bx [sl D.1.1 D.1.2, sl D.2.1 D.2.2])), (160, (bx [i6 d0.1, i6 d0.2.1, i6 d0.2.2.1, i6 d0.2.2.2]))])) fun (d2 : (Desk_T × Int × Int × Int × Int × Int) × (LW × Int) × (Bool × List Int) × List Wait_T × List (Int × Int)) =>
 bK (noW d2.2.2.2.1)
 (bK (noP (putsQ d2.2.2.2.2 d2.1.2.2.2.2.1 d2.2.2.1.2)) (some (.inl (sf [(3, pt 48), (4, pt 64), (5, .slc true []), (6, .slc true []), (37, sl d2.2.1.1.1 d2.2.1.1.2), (38, i6 (↑(mW d2.2.1.1.2).length : Int)), (39, i6 (IntKind.i64.wrap (d2.2.1.2 + 1)))] [(48, (bx [i6 d2.1.2.1])), (64, (bx [sl d2.1.1.1.1 d2.1.1.1.2, sl d2.1.1.2.1 d2.1.1.2.2]))])))
 (some (.inl (sf [(3, pt 48), (4, pt 64), (5, .slc true []), (6, .sref 1008 0 0 (m2 (putsQ d2.2.2.2.2 d2.1.2.2.2.2.1 d2.2.2.1.2)).length), (37, sl d2.2.1.1.1 d2.2.1.1.2), (38, i6 (↑(mW d2.2.1.1.2).length : Int)), (39, i6 (IntKind.i64.wrap (d2.2.1.2 + 1)))] [(48, (bx [i6 d2.1.2.1])), (64, (bx [sl d2.1.1.1.1 d2.1.1.1.2, sl d2.1.1.2.1 d2.1.1.2.2])), (1008, { v := 0, k := .row, fz := false, sz := 2, es := m2 (putsQ d2.2.2.2.2 d2.1.2.2.2.2.1 d2.2.2.1.2) })]))))
 (bK (noP (putsQ d2.2.2.2.2 d2.1.2.2.2.2.1 d2.2.2.1.2)) (some (.inl (sf [(3, pt 48), (4, pt 64), (5, .sref 560 0 0 (mW d2.2.2.2.1).length), (6, .slc true []), (37, sl d2.2.1.1.1 d2.2.1.1.2), (38, i6 (↑(mW d2.2.1.1.2).length : Int)), (39, i6 (IntKind.i64.wrap (d2.2.1.2 + 1)))] [(48, (bx [i6 d2.1.2.1])), (64, (bx [sl d2.1.1.1.1 d2.1.1.1.2, sl d2.1.1.2.1 d2.1.1.2.2])), (560, (rw4 d2.2.2.2.1))])))
 (some (.inl (sf [(3, pt 48), (4, pt 64), (5, .sref 560 0 0 (mW d2.2.2.2.1).length), (6, .sref 1008 0 0 (m2 (putsQ d2.2.2.2.2 d2.1.2.2.2.2.1 d2.2.2.1.2)).length), (37, sl d2.2.1.1.1 d2.2.1.1.2), (38, i6 (↑(mW d2.2.1.1.2).length : Int)), (39, i6 (IntKind.i64.wrap (d2.2.1.2 + 1)))] [(48, (bx [i6 d2.1.2.1])), (64, (bx [sl d2.1.1.1.1 d2.1.1.1.2, sl d2.1.1.2.1 d2.1.1.2.2])), (560, (rw4 d2.2.2.2.1)), (1008, { v := 0, k := .row, fz := false, sz := 2, es := m2 (putsQ d2.2.2.2.2 d2.1.2.2.2.2.1 d2.2.2.1.2) })])))))
 (some (.inr (.exit 2, (sf [(4, pt 64), (5, .slc true []), (6, .slc true [])] [(64, (bx [sl D.1.1 D.1.2, sl D.2.1 D.2.2]))]))))
theorem r2s00_w (D : Desk_T) (now : Int) (lx : Bool) (l : List Wait_T) (i : Int) : r2s00 D now lx l i = r2s00_r D now lx l i := by kernel_rfl

def r2h01 (D : Desk_T) (now : Int) (lx : Bool) (l : List Wait_T) (i : Int) (b : List P2_T) : St := { fr := [(3, .ptr 48 0 0 0), (4, .ptr 64 0 0 0), (5, .slc true []), (6, .sref 1008 0 0 (b.map (mkV true P2_fs)).length), (37, .slc lx (l.map (mkV true Wait_tfs))), (38, .int .i64 ((l.map (mkV true Wait_tfs)).length : Nat)), (39, .int .i64 i)], bs := [(48, boxB [.int .i64 now]), (64, boxB (Tu.mk Desk_tfs D)), (1008, { v := 0, k := .row, fz := false, sz := 2, es := b.map (mkV true P2_fs) })], df := [] }
noncomputable def r2s01 (D : Desk_T) (now : Int) (lx : Bool) (l : List Wait_T) (i : Int) (b : List P2_T) : Option (St ⊕ (Ex × St)) := stepK Try.prog cfg Ru1 r4P 14 2 (r2h01 D now lx l i b)
noncomputable def r2s01_r (D : Desk_T) (now : Int) (lx : Bool) (l : List Wait_T) (i : Int) (b : List P2_T) : Option (St ⊕ Ex × St) :=
 bK (decide (i < (↑(mW l).length : Int)))
 (oK (elemAt true Wait_tfs (mW l) i) fun (d0 : Int × Int × Int × Int) =>
 oK (dclashS.dec [AV.agg [sl D.1.1 D.1.2, sl D.2.1 D.2.2], i6 now, AV.agg [i6 d0.1, i6 d0.2.1, i6 d0.2.2.1, i6 d0.2.2.2]] []) fun (d1 : LW × LW × Int × Int × Int × Int × Int) =>
 oK (r4L.dec (sf [(3, pt 48), (4, pt 64), (5, .slc true []), (6, .sref 1008 0 0 (m2 b).length), (10, pt 160), (37, sl lx l), (38, i6 (↑(mW l).length : Int)), (39, i6 i), (46, .slc (csF d1.1.2 d1.2.2.1 d1.2.2.2.1 d1.2.2.2.2.2.1 d1.2.2.2.2.2.2).isEmpty (mi (csF d1.1.2 d1.2.2.1 d1.2.2.2.1 d1.2.2.2.2.2.1 d1.2.2.2.2.2.2))), (47, i6 (↑(mi (csF d1.1.2 d1.2.2.1 d1.2.2.2.1 d1.2.2.2.2.2.1 d1.2.2.2.2.2.2)).length : Int)), (48, i6 0)] [(48, (bx [i6 now])), (64, (bx [sl D.1.1 D.1.2, sl D.2.1 D.2.2])), (160, (bx [i6 d0.1, i6 d0.2.1, i6 d0.2.2.1, i6 d0.2.2.2])), (1008, { v := 0, k := .row, fz := false, sz := 2, es := m2 b })]))
 fun (d2 : (Desk_T × Int × Int × Int × Int × Int) × (LW × Int) × (Bool × List Int) × List Wait_T × List (Int × Int)) =>
 bK (noW d2.2.2.2.1)
 (bK (noP (putsQ d2.2.2.2.2 d2.1.2.2.2.2.1 d2.2.2.1.2)) (some (.inl (sf [(3, pt 48), (4, pt 64), (5, .slc true []), (6, .slc true []), (37, sl d2.2.1.1.1 d2.2.1.1.2), (38, i6 (↑(mW d2.2.1.1.2).length : Int)), (39, i6 (IntKind.i64.wrap (d2.2.1.2 + 1)))] [(48, (bx [i6 d2.1.2.1])), (64, (bx [sl d2.1.1.1.1 d2.1.1.1.2, sl d2.1.1.2.1 d2.1.1.2.2]))])))
 (some (.inl (sf [(3, pt 48), (4, pt 64), (5, .slc true []), (6, .sref 1008 0 0 (m2 (putsQ d2.2.2.2.2 d2.1.2.2.2.2.1 d2.2.2.1.2)).length), (37, sl d2.2.1.1.1 d2.2.1.1.2), (38, i6 (↑(mW d2.2.1.1.2).length : Int)), (39, i6 (IntKind.i64.wrap (d2.2.1.2 + 1)))] [(48, (bx [i6 d2.1.2.1])), (64, (bx [sl d2.1.1.1.1 d2.1.1.1.2, sl d2.1.1.2.1 d2.1.1.2.2])), (1008, { v := 0, k := .row, fz := false, sz := 2, es := m2 (putsQ d2.2.2.2.2 d2.1.2.2.2.2.1 d2.2.2.1.2) })]))))
 (bK (noP (putsQ d2.2.2.2.2 d2.1.2.2.2.2.1 d2.2.2.1.2)) (some (.inl (sf [(3, pt 48), (4, pt 64), (5, .sref 560 0 0 (mW d2.2.2.2.1).length), (6, .slc true []), (37, sl d2.2.1.1.1 d2.2.1.1.2), (38, i6 (↑(mW d2.2.1.1.2).length : Int)), (39, i6 (IntKind.i64.wrap (d2.2.1.2 + 1)))] [(48, (bx [i6 d2.1.2.1])), (64, (bx [sl d2.1.1.1.1 d2.1.1.1.2, sl d2.1.1.2.1 d2.1.1.2.2])), (560, (rw4 d2.2.2.2.1))])))
 (some (.inl (sf [(3, pt 48), (4, pt 64), (5, .sref 560 0 0 (mW d2.2.2.2.1).length), (6, .sref 1008 0 0 (m2 (putsQ d2.2.2.2.2 d2.1.2.2.2.2.1 d2.2.2.1.2)).length), (37, sl d2.2.1.1.1 d2.2.1.1.2), (38, i6 (↑(mW d2.2.1.1.2).length : Int)), (39, i6 (IntKind.i64.wrap (d2.2.1.2 + 1)))] [(48, (bx [i6 d2.1.2.1])), (64, (bx [sl d2.1.1.1.1 d2.1.1.1.2, sl d2.1.1.2.1 d2.1.1.2.2])), (560, (rw4 d2.2.2.2.1)), (1008, { v := 0, k := .row, fz := false, sz := 2, es := m2 (putsQ d2.2.2.2.2 d2.1.2.2.2.2.1 d2.2.2.1.2) })])))))
 (some (.inr (.exit 2, (sf [(4, pt 64), (5, .slc true []), (6, .sref 1008 0 0 (m2 b).length)] [(64, (bx [sl D.1.1 D.1.2, sl D.2.1 D.2.2])), (1008, { v := 0, k := .row, fz := false, sz := 2, es := m2 b })]))))
theorem r2s01_w (D : Desk_T) (now : Int) (lx : Bool) (l : List Wait_T) (i : Int) (b : List P2_T) : r2s01 D now lx l i b = r2s01_r D now lx l i b := by kernel_rfl

def r2h10 (D : Desk_T) (now : Int) (lx : Bool) (l : List Wait_T) (i : Int) (a : List Wait_T) : St := { fr := [(3, .ptr 48 0 0 0), (4, .ptr 64 0 0 0), (5, .sref 560 0 0 (a.map (mkV true Wait_tfs)).length), (6, .slc true []), (37, .slc lx (l.map (mkV true Wait_tfs))), (38, .int .i64 ((l.map (mkV true Wait_tfs)).length : Nat)), (39, .int .i64 i)], bs := [(48, boxB [.int .i64 now]), (64, boxB (Tu.mk Desk_tfs D)), (560, { v := 0, k := .row, fz := false, sz := 4, es := a.map (mkV true Wait_tfs) })], df := [] }
noncomputable def r2s10 (D : Desk_T) (now : Int) (lx : Bool) (l : List Wait_T) (i : Int) (a : List Wait_T) : Option (St ⊕ (Ex × St)) := stepK Try.prog cfg Ru1 r4P 14 2 (r2h10 D now lx l i a)
noncomputable def r2s10_r (D : Desk_T) (now : Int) (lx : Bool) (l : List Wait_T) (i : Int) (a : List Wait_T) : Option (St ⊕ Ex × St) :=
 bK (decide (i < (↑(mW l).length : Int)))
 (oK (elemAt true Wait_tfs (mW l) i) fun (d0 : Int × Int × Int × Int) =>
 oK (dclashS.dec [AV.agg [sl D.1.1 D.1.2, sl D.2.1 D.2.2], i6 now, AV.agg [i6 d0.1, i6 d0.2.1, i6 d0.2.2.1, i6 d0.2.2.2]] []) fun (d1 : LW × LW × Int × Int × Int × Int × Int) =>
 oK (r4L.dec (sf [(3, pt 48), (4, pt 64), (5, .sref 560 0 0 (mW a).length), (6, .slc true []), (10, pt 160), (37, sl lx l), (38, i6 (↑(mW l).length : Int)), (39, i6 i), (46, .slc (csF d1.1.2 d1.2.2.1 d1.2.2.2.1 d1.2.2.2.2.2.1 d1.2.2.2.2.2.2).isEmpty (mi (csF d1.1.2 d1.2.2.1 d1.2.2.2.1 d1.2.2.2.2.2.1 d1.2.2.2.2.2.2))), (47, i6 (↑(mi (csF d1.1.2 d1.2.2.1 d1.2.2.2.1 d1.2.2.2.2.2.1 d1.2.2.2.2.2.2)).length : Int)), (48, i6 0)] [(48, (bx [i6 now])), (64, (bx [sl D.1.1 D.1.2, sl D.2.1 D.2.2])), (160, (bx [i6 d0.1, i6 d0.2.1, i6 d0.2.2.1, i6 d0.2.2.2])), (560, (rw4 a))]))
 fun (d2 : (Desk_T × Int × Int × Int × Int × Int) × (LW × Int) × (Bool × List Int) × List Wait_T × List (Int × Int)) =>
 bK (noW d2.2.2.2.1)
 (bK (noP (putsQ d2.2.2.2.2 d2.1.2.2.2.2.1 d2.2.2.1.2)) (some (.inl (sf [(3, pt 48), (4, pt 64), (5, .slc true []), (6, .slc true []), (37, sl d2.2.1.1.1 d2.2.1.1.2), (38, i6 (↑(mW d2.2.1.1.2).length : Int)), (39, i6 (IntKind.i64.wrap (d2.2.1.2 + 1)))] [(48, (bx [i6 d2.1.2.1])), (64, (bx [sl d2.1.1.1.1 d2.1.1.1.2, sl d2.1.1.2.1 d2.1.1.2.2]))])))
 (some (.inl (sf [(3, pt 48), (4, pt 64), (5, .slc true []), (6, .sref 1008 0 0 (m2 (putsQ d2.2.2.2.2 d2.1.2.2.2.2.1 d2.2.2.1.2)).length), (37, sl d2.2.1.1.1 d2.2.1.1.2), (38, i6 (↑(mW d2.2.1.1.2).length : Int)), (39, i6 (IntKind.i64.wrap (d2.2.1.2 + 1)))] [(48, (bx [i6 d2.1.2.1])), (64, (bx [sl d2.1.1.1.1 d2.1.1.1.2, sl d2.1.1.2.1 d2.1.1.2.2])), (1008, { v := 0, k := .row, fz := false, sz := 2, es := m2 (putsQ d2.2.2.2.2 d2.1.2.2.2.2.1 d2.2.2.1.2) })]))))
 (bK (noP (putsQ d2.2.2.2.2 d2.1.2.2.2.2.1 d2.2.2.1.2)) (some (.inl (sf [(3, pt 48), (4, pt 64), (5, .sref 560 0 0 (mW d2.2.2.2.1).length), (6, .slc true []), (37, sl d2.2.1.1.1 d2.2.1.1.2), (38, i6 (↑(mW d2.2.1.1.2).length : Int)), (39, i6 (IntKind.i64.wrap (d2.2.1.2 + 1)))] [(48, (bx [i6 d2.1.2.1])), (64, (bx [sl d2.1.1.1.1 d2.1.1.1.2, sl d2.1.1.2.1 d2.1.1.2.2])), (560, (rw4 d2.2.2.2.1))])))
 (some (.inl (sf [(3, pt 48), (4, pt 64), (5, .sref 560 0 0 (mW d2.2.2.2.1).length), (6, .sref 1008 0 0 (m2 (putsQ d2.2.2.2.2 d2.1.2.2.2.2.1 d2.2.2.1.2)).length), (37, sl d2.2.1.1.1 d2.2.1.1.2), (38, i6 (↑(mW d2.2.1.1.2).length : Int)), (39, i6 (IntKind.i64.wrap (d2.2.1.2 + 1)))] [(48, (bx [i6 d2.1.2.1])), (64, (bx [sl d2.1.1.1.1 d2.1.1.1.2, sl d2.1.1.2.1 d2.1.1.2.2])), (560, (rw4 d2.2.2.2.1)), (1008, { v := 0, k := .row, fz := false, sz := 2, es := m2 (putsQ d2.2.2.2.2 d2.1.2.2.2.2.1 d2.2.2.1.2) })])))))
 (some (.inr (.exit 2, (sf [(4, pt 64), (5, .sref 560 0 0 (mW a).length), (6, .slc true [])] [(64, (bx [sl D.1.1 D.1.2, sl D.2.1 D.2.2])), (560, (rw4 a))]))))
theorem r2s10_w (D : Desk_T) (now : Int) (lx : Bool) (l : List Wait_T) (i : Int) (a : List Wait_T) : r2s10 D now lx l i a = r2s10_r D now lx l i a := by kernel_rfl

def r2h11 (D : Desk_T) (now : Int) (lx : Bool) (l : List Wait_T) (i : Int) (a : List Wait_T) (b : List P2_T) : St := { fr := [(3, .ptr 48 0 0 0), (4, .ptr 64 0 0 0), (5, .sref 560 0 0 (a.map (mkV true Wait_tfs)).length), (6, .sref 1008 0 0 (b.map (mkV true P2_fs)).length), (37, .slc lx (l.map (mkV true Wait_tfs))), (38, .int .i64 ((l.map (mkV true Wait_tfs)).length : Nat)), (39, .int .i64 i)], bs := [(48, boxB [.int .i64 now]), (64, boxB (Tu.mk Desk_tfs D)), (560, { v := 0, k := .row, fz := false, sz := 4, es := a.map (mkV true Wait_tfs) }), (1008, { v := 0, k := .row, fz := false, sz := 2, es := b.map (mkV true P2_fs) })], df := [] }
noncomputable def r2s11 (D : Desk_T) (now : Int) (lx : Bool) (l : List Wait_T) (i : Int) (a : List Wait_T) (b : List P2_T) : Option (St ⊕ (Ex × St)) := stepK Try.prog cfg Ru1 r4P 14 2 (r2h11 D now lx l i a b)
noncomputable def r2s11_r (D : Desk_T) (now : Int) (lx : Bool) (l : List Wait_T) (i : Int) (a : List Wait_T) (b : List P2_T) : Option (St ⊕ Ex × St) :=
 bK (decide (i < (↑(mW l).length : Int)))
 (oK (elemAt true Wait_tfs (mW l) i) fun (d0 : Int × Int × Int × Int) =>
 oK (dclashS.dec [AV.agg [sl D.1.1 D.1.2, sl D.2.1 D.2.2], i6 now, AV.agg [i6 d0.1, i6 d0.2.1, i6 d0.2.2.1, i6 d0.2.2.2]] []) fun (d1 : LW × LW × Int × Int × Int × Int × Int) =>
 oK
 (r4L.dec
 (sf [(3, pt 48), (4, pt 64), (5, .sref 560 0 0 (mW a).length), (6, .sref 1008 0 0 (m2 b).length), (10, pt 160), (37, sl lx l), (38, i6 (↑(mW l).length : Int)), (39, i6 i), (46, .slc (csF d1.1.2 d1.2.2.1 d1.2.2.2.1 d1.2.2.2.2.2.1 d1.2.2.2.2.2.2).isEmpty (mi (csF d1.1.2 d1.2.2.1 d1.2.2.2.1 d1.2.2.2.2.2.1 d1.2.2.2.2.2.2))), (47, i6 (↑(mi (csF d1.1.2 d1.2.2.1 d1.2.2.2.1 d1.2.2.2.2.2.1 d1.2.2.2.2.2.2)).length : Int)), (48, i6 0)] [(48, (bx [i6 now])), (64, (bx [sl D.1.1 D.1.2, sl D.2.1 D.2.2])), (160, (bx [i6 d0.1, i6 d0.2.1, i6 d0.2.2.1, i6 d0.2.2.2])), (560, (rw4 a)), (1008, { v := 0, k := .row, fz := false, sz := 2, es := m2 b })]))
 fun (d2 : (Desk_T × Int × Int × Int × Int × Int) × (LW × Int) × (Bool × List Int) × List Wait_T × List (Int × Int)) =>
 bK (noW d2.2.2.2.1)
 (bK (noP (putsQ d2.2.2.2.2 d2.1.2.2.2.2.1 d2.2.2.1.2)) (some (.inl (sf [(3, pt 48), (4, pt 64), (5, .slc true []), (6, .slc true []), (37, sl d2.2.1.1.1 d2.2.1.1.2), (38, i6 (↑(mW d2.2.1.1.2).length : Int)), (39, i6 (IntKind.i64.wrap (d2.2.1.2 + 1)))] [(48, (bx [i6 d2.1.2.1])), (64, (bx [sl d2.1.1.1.1 d2.1.1.1.2, sl d2.1.1.2.1 d2.1.1.2.2]))])))
 (some (.inl (sf [(3, pt 48), (4, pt 64), (5, .slc true []), (6, .sref 1008 0 0 (m2 (putsQ d2.2.2.2.2 d2.1.2.2.2.2.1 d2.2.2.1.2)).length), (37, sl d2.2.1.1.1 d2.2.1.1.2), (38, i6 (↑(mW d2.2.1.1.2).length : Int)), (39, i6 (IntKind.i64.wrap (d2.2.1.2 + 1)))] [(48, (bx [i6 d2.1.2.1])), (64, (bx [sl d2.1.1.1.1 d2.1.1.1.2, sl d2.1.1.2.1 d2.1.1.2.2])), (1008, { v := 0, k := .row, fz := false, sz := 2, es := m2 (putsQ d2.2.2.2.2 d2.1.2.2.2.2.1 d2.2.2.1.2) })]))))
 (bK (noP (putsQ d2.2.2.2.2 d2.1.2.2.2.2.1 d2.2.2.1.2)) (some (.inl (sf [(3, pt 48), (4, pt 64), (5, .sref 560 0 0 (mW d2.2.2.2.1).length), (6, .slc true []), (37, sl d2.2.1.1.1 d2.2.1.1.2), (38, i6 (↑(mW d2.2.1.1.2).length : Int)), (39, i6 (IntKind.i64.wrap (d2.2.1.2 + 1)))] [(48, (bx [i6 d2.1.2.1])), (64, (bx [sl d2.1.1.1.1 d2.1.1.1.2, sl d2.1.1.2.1 d2.1.1.2.2])), (560, (rw4 d2.2.2.2.1))])))
 (some (.inl (sf [(3, pt 48), (4, pt 64), (5, .sref 560 0 0 (mW d2.2.2.2.1).length), (6, .sref 1008 0 0 (m2 (putsQ d2.2.2.2.2 d2.1.2.2.2.2.1 d2.2.2.1.2)).length), (37, sl d2.2.1.1.1 d2.2.1.1.2), (38, i6 (↑(mW d2.2.1.1.2).length : Int)), (39, i6 (IntKind.i64.wrap (d2.2.1.2 + 1)))] [(48, (bx [i6 d2.1.2.1])), (64, (bx [sl d2.1.1.1.1 d2.1.1.1.2, sl d2.1.1.2.1 d2.1.1.2.2])), (560, (rw4 d2.2.2.2.1)), (1008, { v := 0, k := .row, fz := false, sz := 2, es := m2 (putsQ d2.2.2.2.2 d2.1.2.2.2.2.1 d2.2.2.1.2) })])))))
 (some (.inr (.exit 2, (sf [(4, pt 64), (5, .sref 560 0 0 (mW a).length), (6, .sref 1008 0 0 (m2 b).length)] [(64, (bx [sl D.1.1 D.1.2, sl D.2.1 D.2.2])), (560, (rw4 a)), (1008, { v := 0, k := .row, fz := false, sz := 2, es := m2 b })]))))
theorem r2s11_w (D : Desk_T) (now : Int) (lx : Bool) (l : List Wait_T) (i : Int) (a : List Wait_T) (b : List P2_T) : r2s11 D now lx l i a b = r2s11_r D now lx l i a b := by kernel_rfl

theorem oK_lpf {R D : Type} {hd : D → St} {pre : D → Prop} {out : D → Alt (Ex × St)} (hinj : ∀ d d', hd d = hd d' → d = d') (d : D) (hp : pre d) {st : St} (e : st = hd d) {k : D → Option R} {Q : Option R → Prop} (hz : Q (k d)) : Q (oK ((LP.of hd pre out).dec st) k) := by
 rw [e]; exact oK_lpq hinj d hp hz
def hh2x (D : Desk_T) (a : List Wait_T) (b : List P2_T) : St := { fr := [(4, .ptr 64 0 0 0), (5, aV a), (6, bV b)], bs := (64, boxB (Tu.mk Desk_tfs D)) :: (aB a ++ bB b), df := [] }
theorem csF_len (L : List Lease_T) (now c f m : Int) : (csF L now c f m).length ≤ L.length := by
 show ((L.filter _).map _).length ≤ _
 rw [List.length_map]; exact List.length_filter_le _ _
theorem r2_e (D : Desk_T) (now : Int) (lx : Bool) (l : List Wait_T) (i : Nat) (a : List Wait_T) (b : List P2_T) (hi : i < l.length) (hl : l.length ≤ 1000) (hD : D.1.2.length ≤ 1000) (hb : b.length ≤ 5000) : stepK Try.prog cfg Ru1 r4P 14 2 (hh2 D now lx l i a b) = some (.inl (hh2 D now lx l ((i + 1 : Nat) : Int) a (putsC b l[i].2.2.1 (csF D.1.2 now l[i].1 l[i].2.2.1 l[i].2.2.2)))) := by
 have e1 : IntKind.i64.wrap ((i : Int) + 1) = ((i + 1 : Nat) : Int) := by rw [w64 (by omega) (by omega)]; omega
 have e2 : l.getD (i : Int).toNat (0, 0, 0, 0) = l[i] := by rw [Int.toNat_natCast, getD_at hi]
 have at_ : ∀ {Q : Option (St ⊕ (Ex × St)) → Prop} {g : Wait_T → Option (St ⊕ (Ex × St))}, Q (g l[i]) → Q (oK (elemAt true Wait_tfs (l.map (mkV true Wait_tfs)) i) g) := fun hg => oK_atq (fs := Wait_tfs) (0, 0, 0, 0) (by omega) (by simpa using hi) (by rw [e2]; exact hg)
 have hcl := csF_len D.1.2 now l[i].1 l[i].2.2.1 l[i].2.2.2
 generalize hw : l[i] = v at hcl at_
 cases a with
 | nil =>
  cases b with
  | nil =>
   refine (r2s00_w D now lx l i).trans ?_
   unfold r2s00_r
   refine bK_tq (Q := (· = _)) (by simp; omega) ?_
   refine at_ (Q := (· = _)) ?_
   refine oK_fsq (Q := (· = _)) dclashS (D.1, D.2, now, v) (Nat.le_trans hD (by decide)) ?_
   dsimp only
   refine oK_lpf (Q := (· = _)) r4Hd_inj ((D, now, v), ((lx, l), (i : Int)), ((csF D.1.2 now v.1 v.2.2.1 v.2.2.2).isEmpty, csF D.1.2 now v.1 v.2.2.1 v.2.2.2), [], []) ⟨Nat.le_trans hcl hD, hb⟩ rfl ?_
   dsimp only
   have eq : putsQ ([]) v.2.2.1 (csF D.1.2 now v.1 v.2.2.1 v.2.2.2) = putsC ([]) v.2.2.1 (csF D.1.2 now v.1 v.2.2.1 v.2.2.2) := rfl
   rw [eq]
   generalize putsC ([]) v.2.2.1 (csF D.1.2 now v.1 v.2.2.1 v.2.2.2) = c
   refine bK_tq (Q := (· = _)) rfl ?_
   cases c with
   | nil =>
    refine bK_tq (Q := (· = _)) rfl ?_
    rw [e1]; rfl
   | cons c0 cr =>
    refine bK_fq (Q := (· = _)) rfl ?_
    rw [e1]; rfl
  | cons b0 br =>
   refine (r2s01_w D now lx l i (b0 :: br)).trans ?_
   unfold r2s01_r
   refine bK_tq (Q := (· = _)) (by simp; omega) ?_
   refine at_ (Q := (· = _)) ?_
   refine oK_fsq (Q := (· = _)) dclashS (D.1, D.2, now, v) (Nat.le_trans hD (by decide)) ?_
   dsimp only
   refine oK_lpf (Q := (· = _)) r4Hd_inj ((D, now, v), ((lx, l), (i : Int)), ((csF D.1.2 now v.1 v.2.2.1 v.2.2.2).isEmpty, csF D.1.2 now v.1 v.2.2.1 v.2.2.2), [], b0 :: br) ⟨Nat.le_trans hcl hD, hb⟩ rfl ?_
   dsimp only
   have eq : putsQ (b0 :: br) v.2.2.1 (csF D.1.2 now v.1 v.2.2.1 v.2.2.2) = putsC (b0 :: br) v.2.2.1 (csF D.1.2 now v.1 v.2.2.1 v.2.2.2) := rfl
   rw [eq]
   generalize putsC (b0 :: br) v.2.2.1 (csF D.1.2 now v.1 v.2.2.1 v.2.2.2) = c
   refine bK_tq (Q := (· = _)) rfl ?_
   cases c with
   | nil =>
    refine bK_tq (Q := (· = _)) rfl ?_
    rw [e1]; rfl
   | cons c0 cr =>
    refine bK_fq (Q := (· = _)) rfl ?_
    rw [e1]; rfl
 | cons a0 ar =>
  cases b with
  | nil =>
   refine (r2s10_w D now lx l i (a0 :: ar)).trans ?_
   unfold r2s10_r
   refine bK_tq (Q := (· = _)) (by simp; omega) ?_
   refine at_ (Q := (· = _)) ?_
   refine oK_fsq (Q := (· = _)) dclashS (D.1, D.2, now, v) (Nat.le_trans hD (by decide)) ?_
   dsimp only
   refine oK_lpf (Q := (· = _)) r4Hd_inj ((D, now, v), ((lx, l), (i : Int)), ((csF D.1.2 now v.1 v.2.2.1 v.2.2.2).isEmpty, csF D.1.2 now v.1 v.2.2.1 v.2.2.2), a0 :: ar, []) ⟨Nat.le_trans hcl hD, hb⟩ rfl ?_
   dsimp only
   have eq : putsQ ([]) v.2.2.1 (csF D.1.2 now v.1 v.2.2.1 v.2.2.2) = putsC ([]) v.2.2.1 (csF D.1.2 now v.1 v.2.2.1 v.2.2.2) := rfl
   rw [eq]
   generalize putsC ([]) v.2.2.1 (csF D.1.2 now v.1 v.2.2.1 v.2.2.2) = c
   refine bK_fq (Q := (· = _)) rfl ?_
   cases c with
   | nil =>
    refine bK_tq (Q := (· = _)) rfl ?_
    rw [e1]; rfl
   | cons c0 cr =>
    refine bK_fq (Q := (· = _)) rfl ?_
    rw [e1]; rfl
  | cons b0 br =>
   refine (r2s11_w D now lx l i (a0 :: ar) (b0 :: br)).trans ?_
   unfold r2s11_r
   refine bK_tq (Q := (· = _)) (by simp; omega) ?_
   refine at_ (Q := (· = _)) ?_
   refine oK_fsq (Q := (· = _)) dclashS (D.1, D.2, now, v) (Nat.le_trans hD (by decide)) ?_
   dsimp only
   refine oK_lpf (Q := (· = _)) r4Hd_inj ((D, now, v), ((lx, l), (i : Int)), ((csF D.1.2 now v.1 v.2.2.1 v.2.2.2).isEmpty, csF D.1.2 now v.1 v.2.2.1 v.2.2.2), a0 :: ar, b0 :: br) ⟨Nat.le_trans hcl hD, hb⟩ rfl ?_
   dsimp only
   have eq : putsQ (b0 :: br) v.2.2.1 (csF D.1.2 now v.1 v.2.2.1 v.2.2.2) = putsC (b0 :: br) v.2.2.1 (csF D.1.2 now v.1 v.2.2.1 v.2.2.2) := rfl
   rw [eq]
   generalize putsC (b0 :: br) v.2.2.1 (csF D.1.2 now v.1 v.2.2.1 v.2.2.2) = c
   refine bK_fq (Q := (· = _)) rfl ?_
   cases c with
   | nil =>
    refine bK_tq (Q := (· = _)) rfl ?_
    rw [e1]; rfl
   | cons c0 cr =>
    refine bK_fq (Q := (· = _)) rfl ?_
    rw [e1]; rfl
theorem r2_x (D : Desk_T) (now : Int) (lx : Bool) (l : List Wait_T) (i : Int) (a : List Wait_T) (b : List P2_T) (hk : ¬ i < (l.length : Int)) : stepK Try.prog cfg Ru1 r4P 14 2 (hh2 D now lx l i a b) = some (.inr (.exit 2, hh2x D a b)) := by
 cases a with
 | nil =>
  cases b with
  | nil =>
   refine (r2s00_w D now lx l i).trans ?_
   unfold r2s00_r
   exact bK_neg (by rw [List.length_map]; exact decide_eq_false hk)
  | cons b0 br =>
   refine (r2s01_w D now lx l i (b0 :: br)).trans ?_
   unfold r2s01_r
   exact bK_neg (by rw [List.length_map]; exact decide_eq_false hk)
 | cons a0 ar =>
  cases b with
  | nil =>
   refine (r2s10_w D now lx l i (a0 :: ar)).trans ?_
   unfold r2s10_r
   exact bK_neg (by rw [List.length_map]; exact decide_eq_false hk)
  | cons b0 br =>
   refine (r2s11_w D now lx l i (a0 :: ar) (b0 :: br)).trans ?_
   unfold r2s11_r
   exact bK_neg (by rw [List.length_map]; exact decide_eq_false hk)
def callsN (L : List Lease_T) (now : Int) : List Wait_T → List P2_T → List P2_T
 | [], b => b
 | v :: r, b => callsN L now r (putsC b v.2.2.1 (csF L now v.1 v.2.2.1 v.2.2.2))
theorem callsN_len (L : List Lease_T) (now : Int) : ∀ (W : List Wait_T) (b : List P2_T), (callsN L now W b).length ≤ b.length + W.length * L.length
 | [], b => by show b.length ≤ _; omega
 | v :: r, b => by
  have h1 := callsN_len L now r (putsC b v.2.2.1 (csF L now v.1 v.2.2.1 v.2.2.2))
  have h2 := putsC_len v.2.2.1 (csF L now v.1 v.2.2.1 v.2.2.2) b
  have h3 := csF_len L now v.1 v.2.2.1 v.2.2.2
  show (callsN L now r (putsC b v.2.2.1 (csF L now v.1 v.2.2.1 v.2.2.2))).length ≤ b.length + (r.length + 1) * L.length
  rw [Nat.add_mul]
  omega
theorem r2_run (D : Desk_T) (now : Int) (lx : Bool) (l : List Wait_T) (a : List Wait_T) (hl : l.length ≤ 50) (hD : D.1.2.length ≤ 50) : ∀ (j i : Nat), i + j = l.length → ∀ (b : List P2_T), b.length + j * 50 ≤ 2500 → ∀ (fu : Nat), j < fu → Runs' Try.prog cfg Ru1 14 2 fu (hh2 D now lx l i a b) (.exit 2, hh2x D a (callsN D.1.2 now (l.drop i) b))
 | 0, i, hi, b, hb, fu + 1, hf => by
  rw [List.drop_of_length_le (by omega)]
  exact Runs'.done (lp := r4P) r4P_ok ra142 (r2_x D now lx l i a b (by omega))
 | j + 1, i, hi, b, hb, fu + 1, hf => by
  have hi' : i < l.length := by omega
  have e : l.drop i = l[i] :: l.drop (i + 1) := List.drop_eq_getElem_cons hi'
  have h2 := putsC_len l[i].2.2.1 (csF D.1.2 now l[i].1 l[i].2.2.1 l[i].2.2.2) b
  have h3 := csF_len D.1.2 now l[i].1 l[i].2.2.1 l[i].2.2.2
  have hr := r2_run D now lx l a hl hD j (i + 1) (by omega) (putsC b l[i].2.2.1 (csF D.1.2 now l[i].1 l[i].2.2.1 l[i].2.2.2)) (by omega) fu (by omega)
  rw [e]
  exact Runs'.step (lp := r4P) r4P_ok ra142 (r2_e D now lx l i a b hi' (by omega) (by omega) (by omega)) hr
abbrev R2D : Type := (Desk_T × Int) × (Bool × List Wait_T) × List Wait_T
def r2Hd (d : R2D) : St := hh2 d.1.1 d.1.2 d.2.1.1 d.2.1.2 0 d.2.2 []
theorem r2Hd_inj (d d' : R2D) (h : r2Hd d = r2Hd d') : d = d' := by
 obtain ⟨⟨D, now⟩, ⟨lx, l⟩, a⟩ := d
 obtain ⟨⟨D', now'⟩, ⟨lx', l'⟩, a'⟩ := d'
 simp only [r2Hd, hh2, boxB, St.mk.injEq, List.cons.injEq, Prod.mk.injEq, AV.slc.injEq, AV.int.injEq, Blk.mk.injEq, and_true, true_and] at h
 obtain ⟨⟨_, ⟨h1, h2⟩, _⟩, h6, h7, h9⟩ := h
 obtain ⟨h10, h11⟩ := aB_inj h9
 rw [h1, map_inj (fs := Wait_tfs) rfl h2, h6, mk_inj (fs := Desk_tfs) rfl h7, h10]
def callsQ (L : List Lease_T) (W : List Wait_T) (now : Int) : List P2_T := callsN L now W []
noncomputable def r2L : LP := LP.of r2Hd (fun d => d.2.1.2.length ≤ 50 ∧ d.1.1.1.2.length ≤ 50) fun d => .ite (noW d.2.2) (.ite (noP (callsQ d.1.1.1.2 d.2.1.2 d.1.2)) (.leaf (.exit 2, { fr := [(4, .ptr 64 0 0 0), (5, .slc true []), (6, .slc true [])], bs := [(64, boxB (Tu.mk Desk_tfs d.1.1))], df := [] })) (.leaf (.exit 2, { fr := [(4, .ptr 64 0 0 0), (5, .slc true []), (6, .sref 1008 0 0 ((callsQ d.1.1.1.2 d.2.1.2 d.1.2).map (mkV true P2_fs)).length)], bs := [(64, boxB (Tu.mk Desk_tfs d.1.1)), (1008, { v := 0, k := .row, fz := false, sz := 2, es := (callsQ d.1.1.1.2 d.2.1.2 d.1.2).map (mkV true P2_fs) })], df := [] }))) (.ite (noP (callsQ d.1.1.1.2 d.2.1.2 d.1.2)) (.leaf (.exit 2, { fr := [(4, .ptr 64 0 0 0), (5, .sref 560 0 0 (d.2.2.map (mkV true Wait_tfs)).length), (6, .slc true [])], bs := [(64, boxB (Tu.mk Desk_tfs d.1.1)), (560, { v := 0, k := .row, fz := false, sz := 4, es := d.2.2.map (mkV true Wait_tfs) })], df := [] })) (.leaf (.exit 2, { fr := [(4, .ptr 64 0 0 0), (5, .sref 560 0 0 (d.2.2.map (mkV true Wait_tfs)).length), (6, .sref 1008 0 0 ((callsQ d.1.1.1.2 d.2.1.2 d.1.2).map (mkV true P2_fs)).length)], bs := [(64, boxB (Tu.mk Desk_tfs d.1.1)), (560, { v := 0, k := .row, fz := false, sz := 4, es := d.2.2.map (mkV true Wait_tfs) }), (1008, { v := 0, k := .row, fz := false, sz := 2, es := (callsQ d.1.1.1.2 d.2.1.2 d.1.2).map (mkV true P2_fs) })], df := [] })))
noncomputable def r2P : LPs := LPs.add r4P 14 2 r2L
theorem r2P_ok : LPok Try.prog cfg Ru1 r2P 14 := LPok.addH r4P_ok ro14 (by
 rintro ⟨⟨D, now⟩, ⟨lx, l⟩, a⟩ ⟨h1, h2⟩
 simp only at h1 h2
 have hr := r2_run D now lx l a h1 h2 l.length 0 (by omega) [] (by simp only [List.length_nil]; omega) rounds (by simp only [rounds]; omega)
 rw [List.drop_zero] at hr
 refine cast ?_ hr
 congr 1
 have e : callsQ D.1.2 l now = callsN D.1.2 now l [] := rfl
 dsimp only
 rw [ite_hh2, e]
 cases a with
 | nil => cases callsN D.1.2 now l [] with
  | nil => rfl
  | cons b0 br => rfl
 | cons a0 ar => cases callsN D.1.2 now l [] with
  | nil => rfl
  | cons b0 br => rfl)

end Go.Proofs.Ytkanmigbbpppnaa
