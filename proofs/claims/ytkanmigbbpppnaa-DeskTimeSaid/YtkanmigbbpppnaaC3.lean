/- A part of the proof: contracts of functions. -/
import Derived.Test.YtkanmigbbpppnaaB3
import Derived.Test.YtkanmigbbpppnaaAbAny

set_option linter.unusedVariables false
set_option linter.unusedSimpArgs false
set_option maxRecDepth 100000
namespace Go.Proofs.Ytkanmigbbpppnaa
open Go Go.Ab
def e2h00 (D : Desk_T) (now : Int) (i : Int) : St := { fr := [(1, .int .i64 now), (2, .ptr 32 0 0 0), (4, .ptr 64 0 0 0), (7, .slc true []), (10, .slc true []), (11, .int .i64 i)], bs := [(32, boxB (Tu.mk Desk_tfs D)), (64, boxB [.slc true [], .slc true []])], df := [] }
noncomputable def e2s00 (D : Desk_T) (now : Int) (i : Int) : Option (St ⊕ (Ex × St)) := stepK Try.prog cfg Rc4 e4P 15 2 (e2h00 D now i)
noncomputable def e2s00_r (D : Desk_T) (now : Int) (i : Int) : Option (St ⊕ Ex × St) :=
 bK (decide (i < (↑(mW D.2.2).length : Int)))
 (oK (elemAt true Wait_tfs (mW D.2.2) i) fun (d0 : Int × Int × Int × Int) =>
 oK (crefS.dec [sl D.1.1 D.1.2, i6 now, i6 d0.1, i6 d0.2.2.1, i6 d0.2.2.2] []) fun (d1 : LW × Int × Int × Int × Int) =>
 oK (e4L.dec (sf [(1, i6 now), (2, pt 32), (4, pt 64), (7, .slc true []), (10, .slc true []), (11, i6 i), (12, pt 192), (13, .slc (rcF d1.1.2 d1.2.1 d1.2.2.1 d1.2.2.2.1 d1.2.2.2.2).isEmpty (mi (rcF d1.1.2 d1.2.1 d1.2.2.1 d1.2.2.2.1 d1.2.2.2.2))), (14, i6 0)] [(32, (bx [sl D.1.1 D.1.2, sl D.2.1 D.2.2])), (64, (bx [.slc true [], .slc true []])), (192, (bx [i6 d0.1, i6 d0.2.1, i6 d0.2.2.1, i6 d0.2.2.2]))])) fun (d2 : (Desk_T × Int) × (Int × Int × Int × Int × Int) × (Bool × List Int) × List Wait_T × List (Int × Int)) =>
 bK (noW d2.2.2.2.1)
 (bK (noP (putsQ d2.2.2.2.2 d2.2.1.2.2.2.1 d2.2.2.1.2)) (some (.inl (sf [(1, i6 d2.1.2), (2, pt 32), (4, pt 64), (7, .slc true []), (10, .slc true []), (11, i6 (IntKind.i64.wrap (d2.2.1.1 + 1)))] [(32, (bx [sl d2.1.1.1.1 d2.1.1.1.2, sl d2.1.1.2.1 d2.1.1.2.2])), (64, (bx [.slc true [], .slc true []]))])))
 (some (.inl (sf [(1, i6 d2.1.2), (2, pt 32), (4, pt 64), (7, .slc true []), (10, .sref 1648 0 0 (m2 (putsQ d2.2.2.2.2 d2.2.1.2.2.2.1 d2.2.2.1.2)).length), (11, i6 (IntKind.i64.wrap (d2.2.1.1 + 1)))] [(32, (bx [sl d2.1.1.1.1 d2.1.1.1.2, sl d2.1.1.2.1 d2.1.1.2.2])), (64, (bx [.slc true [], .slc true []])), (1648, { v := 0, k := .row, fz := false, sz := 2, es := m2 (putsQ d2.2.2.2.2 d2.2.1.2.2.2.1 d2.2.2.1.2) })]))))
 (bK (noP (putsQ d2.2.2.2.2 d2.2.1.2.2.2.1 d2.2.2.1.2)) (some (.inl (sf [(1, i6 d2.1.2), (2, pt 32), (4, pt 64), (7, .sref 688 0 0 (mW d2.2.2.2.1).length), (10, .slc true []), (11, i6 (IntKind.i64.wrap (d2.2.1.1 + 1)))] [(32, (bx [sl d2.1.1.1.1 d2.1.1.1.2, sl d2.1.1.2.1 d2.1.1.2.2])), (64, (bx [.slc true [], .slc true []])), (688, (rw4 d2.2.2.2.1))])))
 (some (.inl (sf [(1, i6 d2.1.2), (2, pt 32), (4, pt 64), (7, .sref 688 0 0 (mW d2.2.2.2.1).length), (10, .sref 1648 0 0 (m2 (putsQ d2.2.2.2.2 d2.2.1.2.2.2.1 d2.2.2.1.2)).length), (11, i6 (IntKind.i64.wrap (d2.2.1.1 + 1)))] [(32, (bx [sl d2.1.1.1.1 d2.1.1.1.2, sl d2.1.1.2.1 d2.1.1.2.2])), (64, (bx [.slc true [], .slc true []])), (688, (rw4 d2.2.2.2.1)), (1648, { v := 0, k := .row, fz := false, sz := 2, es := m2 (putsQ d2.2.2.2.2 d2.2.1.2.2.2.1 d2.2.2.1.2) })])))))
 (some (.inr (.exit 2, (sf [(2, pt 32), (4, pt 64), (7, .slc true []), (10, .slc true [])] [(32, (bx [sl D.1.1 D.1.2, sl D.2.1 D.2.2])), (64, (bx [.slc true [], .slc true []]))]))))
theorem e2s00_w (D : Desk_T) (now : Int) (i : Int) : e2s00 D now i = e2s00_r D now i := by kernel_rfl

def e2h01 (D : Desk_T) (now : Int) (i : Int) (b : List P2_T) : St := { fr := [(1, .int .i64 now), (2, .ptr 32 0 0 0), (4, .ptr 64 0 0 0), (7, .slc true []), (10, .sref 1648 0 0 (b.map (mkV true P2_fs)).length), (11, .int .i64 i)], bs := [(32, boxB (Tu.mk Desk_tfs D)), (64, boxB [.slc true [], .slc true []]), (1648, { v := 0, k := .row, fz := false, sz := 2, es := b.map (mkV true P2_fs) })], df := [] }
noncomputable def e2s01 (D : Desk_T) (now : Int) (i : Int) (b : List P2_T) : Option (St ⊕ (Ex × St)) := stepK Try.prog cfg Rc4 e4P 15 2 (e2h01 D now i b)
noncomputable def e2s01_r (D : Desk_T) (now : Int) (i : Int) (b : List P2_T) : Option (St ⊕ Ex × St) :=
 bK (decide (i < (↑(mW D.2.2).length : Int)))
 (oK (elemAt true Wait_tfs (mW D.2.2) i) fun (d0 : Int × Int × Int × Int) =>
 oK (crefS.dec [sl D.1.1 D.1.2, i6 now, i6 d0.1, i6 d0.2.2.1, i6 d0.2.2.2] []) fun (d1 : LW × Int × Int × Int × Int) =>
 oK (e4L.dec (sf [(1, i6 now), (2, pt 32), (4, pt 64), (7, .slc true []), (10, .sref 1648 0 0 (m2 b).length), (11, i6 i), (12, pt 192), (13, .slc (rcF d1.1.2 d1.2.1 d1.2.2.1 d1.2.2.2.1 d1.2.2.2.2).isEmpty (mi (rcF d1.1.2 d1.2.1 d1.2.2.1 d1.2.2.2.1 d1.2.2.2.2))), (14, i6 0)] [(32, (bx [sl D.1.1 D.1.2, sl D.2.1 D.2.2])), (64, (bx [.slc true [], .slc true []])), (192, (bx [i6 d0.1, i6 d0.2.1, i6 d0.2.2.1, i6 d0.2.2.2])), (1648, { v := 0, k := .row, fz := false, sz := 2, es := m2 b })])) fun (d2 : (Desk_T × Int) × (Int × Int × Int × Int × Int) × (Bool × List Int) × List Wait_T × List (Int × Int)) =>
 bK (noW d2.2.2.2.1)
 (bK (noP (putsQ d2.2.2.2.2 d2.2.1.2.2.2.1 d2.2.2.1.2)) (some (.inl (sf [(1, i6 d2.1.2), (2, pt 32), (4, pt 64), (7, .slc true []), (10, .slc true []), (11, i6 (IntKind.i64.wrap (d2.2.1.1 + 1)))] [(32, (bx [sl d2.1.1.1.1 d2.1.1.1.2, sl d2.1.1.2.1 d2.1.1.2.2])), (64, (bx [.slc true [], .slc true []]))])))
 (some (.inl (sf [(1, i6 d2.1.2), (2, pt 32), (4, pt 64), (7, .slc true []), (10, .sref 1648 0 0 (m2 (putsQ d2.2.2.2.2 d2.2.1.2.2.2.1 d2.2.2.1.2)).length), (11, i6 (IntKind.i64.wrap (d2.2.1.1 + 1)))] [(32, (bx [sl d2.1.1.1.1 d2.1.1.1.2, sl d2.1.1.2.1 d2.1.1.2.2])), (64, (bx [.slc true [], .slc true []])), (1648, { v := 0, k := .row, fz := false, sz := 2, es := m2 (putsQ d2.2.2.2.2 d2.2.1.2.2.2.1 d2.2.2.1.2) })]))))
 (bK (noP (putsQ d2.2.2.2.2 d2.2.1.2.2.2.1 d2.2.2.1.2)) (some (.inl (sf [(1, i6 d2.1.2), (2, pt 32), (4, pt 64), (7, .sref 688 0 0 (mW d2.2.2.2.1).length), (10, .slc true []), (11, i6 (IntKind.i64.wrap (d2.2.1.1 + 1)))] [(32, (bx [sl d2.1.1.1.1 d2.1.1.1.2, sl d2.1.1.2.1 d2.1.1.2.2])), (64, (bx [.slc true [], .slc true []])), (688, (rw4 d2.2.2.2.1))])))
 (some (.inl (sf [(1, i6 d2.1.2), (2, pt 32), (4, pt 64), (7, .sref 688 0 0 (mW d2.2.2.2.1).length), (10, .sref 1648 0 0 (m2 (putsQ d2.2.2.2.2 d2.2.1.2.2.2.1 d2.2.2.1.2)).length), (11, i6 (IntKind.i64.wrap (d2.2.1.1 + 1)))] [(32, (bx [sl d2.1.1.1.1 d2.1.1.1.2, sl d2.1.1.2.1 d2.1.1.2.2])), (64, (bx [.slc true [], .slc true []])), (688, (rw4 d2.2.2.2.1)), (1648, { v := 0, k := .row, fz := false, sz := 2, es := m2 (putsQ d2.2.2.2.2 d2.2.1.2.2.2.1 d2.2.2.1.2) })])))))
 (some (.inr (.exit 2, (sf [(2, pt 32), (4, pt 64), (7, .slc true []), (10, .sref 1648 0 0 (m2 b).length)] [(32, (bx [sl D.1.1 D.1.2, sl D.2.1 D.2.2])), (64, (bx [.slc true [], .slc true []])), (1648, { v := 0, k := .row, fz := false, sz := 2, es := m2 b })]))))
theorem e2s01_w (D : Desk_T) (now : Int) (i : Int) (b : List P2_T) : e2s01 D now i b = e2s01_r D now i b := by kernel_rfl

def e2h10 (D : Desk_T) (now : Int) (i : Int) (a : List Wait_T) : St := { fr := [(1, .int .i64 now), (2, .ptr 32 0 0 0), (4, .ptr 64 0 0 0), (7, .sref 688 0 0 (a.map (mkV true Wait_tfs)).length), (10, .slc true []), (11, .int .i64 i)], bs := [(32, boxB (Tu.mk Desk_tfs D)), (64, boxB [.slc true [], .slc true []]), (688, { v := 0, k := .row, fz := false, sz := 4, es := a.map (mkV true Wait_tfs) })], df := [] }
noncomputable def e2s10 (D : Desk_T) (now : Int) (i : Int) (a : List Wait_T) : Option (St ⊕ (Ex × St)) := stepK Try.prog cfg Rc4 e4P 15 2 (e2h10 D now i a)
noncomputable def e2s10_r (D : Desk_T) (now : Int) (i : Int) (a : List Wait_T) : Option (St ⊕ Ex × St) :=
 bK (decide (i < (↑(mW D.2.2).length : Int)))
 (oK (elemAt true Wait_tfs (mW D.2.2) i) fun (d0 : Int × Int × Int × Int) =>
 oK (crefS.dec [sl D.1.1 D.1.2, i6 now, i6 d0.1, i6 d0.2.2.1, i6 d0.2.2.2] []) fun (d1 : LW × Int × Int × Int × Int) =>
 oK (e4L.dec (sf [(1, i6 now), (2, pt 32), (4, pt 64), (7, .sref 688 0 0 (mW a).length), (10, .slc true []), (11, i6 i), (12, pt 192), (13, .slc (rcF d1.1.2 d1.2.1 d1.2.2.1 d1.2.2.2.1 d1.2.2.2.2).isEmpty (mi (rcF d1.1.2 d1.2.1 d1.2.2.1 d1.2.2.2.1 d1.2.2.2.2))), (14, i6 0)] [(32, (bx [sl D.1.1 D.1.2, sl D.2.1 D.2.2])), (64, (bx [.slc true [], .slc true []])), (192, (bx [i6 d0.1, i6 d0.2.1, i6 d0.2.2.1, i6 d0.2.2.2])), (688, (rw4 a))])) fun (d2 : (Desk_T × Int) × (Int × Int × Int × Int × Int) × (Bool × List Int) × List Wait_T × List (Int × Int)) =>
 bK (noW d2.2.2.2.1)
 (bK (noP (putsQ d2.2.2.2.2 d2.2.1.2.2.2.1 d2.2.2.1.2)) (some (.inl (sf [(1, i6 d2.1.2), (2, pt 32), (4, pt 64), (7, .slc true []), (10, .slc true []), (11, i6 (IntKind.i64.wrap (d2.2.1.1 + 1)))] [(32, (bx [sl d2.1.1.1.1 d2.1.1.1.2, sl d2.1.1.2.1 d2.1.1.2.2])), (64, (bx [.slc true [], .slc true []]))])))
 (some (.inl (sf [(1, i6 d2.1.2), (2, pt 32), (4, pt 64), (7, .slc true []), (10, .sref 1648 0 0 (m2 (putsQ d2.2.2.2.2 d2.2.1.2.2.2.1 d2.2.2.1.2)).length), (11, i6 (IntKind.i64.wrap (d2.2.1.1 + 1)))] [(32, (bx [sl d2.1.1.1.1 d2.1.1.1.2, sl d2.1.1.2.1 d2.1.1.2.2])), (64, (bx [.slc true [], .slc true []])), (1648, { v := 0, k := .row, fz := false, sz := 2, es := m2 (putsQ d2.2.2.2.2 d2.2.1.2.2.2.1 d2.2.2.1.2) })]))))
 (bK (noP (putsQ d2.2.2.2.2 d2.2.1.2.2.2.1 d2.2.2.1.2)) (some (.inl (sf [(1, i6 d2.1.2), (2, pt 32), (4, pt 64), (7, .sref 688 0 0 (mW d2.2.2.2.1).length), (10, .slc true []), (11, i6 (IntKind.i64.wrap (d2.2.1.1 + 1)))] [(32, (bx [sl d2.1.1.1.1 d2.1.1.1.2, sl d2.1.1.2.1 d2.1.1.2.2])), (64, (bx [.slc true [], .slc true []])), (688, (rw4 d2.2.2.2.1))])))
 (some (.inl (sf [(1, i6 d2.1.2), (2, pt 32), (4, pt 64), (7, .sref 688 0 0 (mW d2.2.2.2.1).length), (10, .sref 1648 0 0 (m2 (putsQ d2.2.2.2.2 d2.2.1.2.2.2.1 d2.2.2.1.2)).length), (11, i6 (IntKind.i64.wrap (d2.2.1.1 + 1)))] [(32, (bx [sl d2.1.1.1.1 d2.1.1.1.2, sl d2.1.1.2.1 d2.1.1.2.2])), (64, (bx [.slc true [], .slc true []])), (688, (rw4 d2.2.2.2.1)), (1648, { v := 0, k := .row, fz := false, sz := 2, es := m2 (putsQ d2.2.2.2.2 d2.2.1.2.2.2.1 d2.2.2.1.2) })])))))
 (some (.inr (.exit 2, (sf [(2, pt 32), (4, pt 64), (7, .sref 688 0 0 (mW a).length), (10, .slc true [])] [(32, (bx [sl D.1.1 D.1.2, sl D.2.1 D.2.2])), (64, (bx [.slc true [], .slc true []])), (688, (rw4 a))]))))
theorem e2s10_w (D : Desk_T) (now : Int) (i : Int) (a : List Wait_T) : e2s10 D now i a = e2s10_r D now i a := by kernel_rfl

def e2h11 (D : Desk_T) (now : Int) (i : Int) (a : List Wait_T) (b : List P2_T) : St := { fr := [(1, .int .i64 now), (2, .ptr 32 0 0 0), (4, .ptr 64 0 0 0), (7, .sref 688 0 0 (a.map (mkV true Wait_tfs)).length), (10, .sref 1648 0 0 (b.map (mkV true P2_fs)).length), (11, .int .i64 i)], bs := [(32, boxB (Tu.mk Desk_tfs D)), (64, boxB [.slc true [], .slc true []]), (688, { v := 0, k := .row, fz := false, sz := 4, es := a.map (mkV true Wait_tfs) }), (1648, { v := 0, k := .row, fz := false, sz := 2, es := b.map (mkV true P2_fs) })], df := [] }
noncomputable def e2s11 (D : Desk_T) (now : Int) (i : Int) (a : List Wait_T) (b : List P2_T) : Option (St ⊕ (Ex × St)) := stepK Try.prog cfg Rc4 e4P 15 2 (e2h11 D now i a b)
noncomputable def e2s11_r (D : Desk_T) (now : Int) (i : Int) (a : List Wait_T) (b : List P2_T) : Option (St ⊕ Ex × St) :=
 bK (decide (i < (↑(mW D.2.2).length : Int)))
 (oK (elemAt true Wait_tfs (mW D.2.2) i) fun (d0 : Int × Int × Int × Int) =>
 oK (crefS.dec [sl D.1.1 D.1.2, i6 now, i6 d0.1, i6 d0.2.2.1, i6 d0.2.2.2] []) fun (d1 : LW × Int × Int × Int × Int) =>
 oK (e4L.dec (sf [(1, i6 now), (2, pt 32), (4, pt 64), (7, .sref 688 0 0 (mW a).length), (10, .sref 1648 0 0 (m2 b).length), (11, i6 i), (12, pt 192), (13, .slc (rcF d1.1.2 d1.2.1 d1.2.2.1 d1.2.2.2.1 d1.2.2.2.2).isEmpty (mi (rcF d1.1.2 d1.2.1 d1.2.2.1 d1.2.2.2.1 d1.2.2.2.2))), (14, i6 0)] [(32, (bx [sl D.1.1 D.1.2, sl D.2.1 D.2.2])), (64, (bx [.slc true [], .slc true []])), (192, (bx [i6 d0.1, i6 d0.2.1, i6 d0.2.2.1, i6 d0.2.2.2])), (688, (rw4 a)), (1648, { v := 0, k := .row, fz := false, sz := 2, es := m2 b })])) fun (d2 : (Desk_T × Int) × (Int × Int × Int × Int × Int) × (Bool × List Int) × List Wait_T × List (Int × Int)) =>
 bK (noW d2.2.2.2.1)
 (bK (noP (putsQ d2.2.2.2.2 d2.2.1.2.2.2.1 d2.2.2.1.2)) (some (.inl (sf [(1, i6 d2.1.2), (2, pt 32), (4, pt 64), (7, .slc true []), (10, .slc true []), (11, i6 (IntKind.i64.wrap (d2.2.1.1 + 1)))] [(32, (bx [sl d2.1.1.1.1 d2.1.1.1.2, sl d2.1.1.2.1 d2.1.1.2.2])), (64, (bx [.slc true [], .slc true []]))])))
 (some (.inl (sf [(1, i6 d2.1.2), (2, pt 32), (4, pt 64), (7, .slc true []), (10, .sref 1648 0 0 (m2 (putsQ d2.2.2.2.2 d2.2.1.2.2.2.1 d2.2.2.1.2)).length), (11, i6 (IntKind.i64.wrap (d2.2.1.1 + 1)))] [(32, (bx [sl d2.1.1.1.1 d2.1.1.1.2, sl d2.1.1.2.1 d2.1.1.2.2])), (64, (bx [.slc true [], .slc true []])), (1648, { v := 0, k := .row, fz := false, sz := 2, es := m2 (putsQ d2.2.2.2.2 d2.2.1.2.2.2.1 d2.2.2.1.2) })]))))
 (bK (noP (putsQ d2.2.2.2.2 d2.2.1.2.2.2.1 d2.2.2.1.2)) (some (.inl (sf [(1, i6 d2.1.2), (2, pt 32), (4, pt 64), (7, .sref 688 0 0 (mW d2.2.2.2.1).length), (10, .slc true []), (11, i6 (IntKind.i64.wrap (d2.2.1.1 + 1)))] [(32, (bx [sl d2.1.1.1.1 d2.1.1.1.2, sl d2.1.1.2.1 d2.1.1.2.2])), (64, (bx [.slc true [], .slc true []])), (688, (rw4 d2.2.2.2.1))])))
 (some (.inl (sf [(1, i6 d2.1.2), (2, pt 32), (4, pt 64), (7, .sref 688 0 0 (mW d2.2.2.2.1).length), (10, .sref 1648 0 0 (m2 (putsQ d2.2.2.2.2 d2.2.1.2.2.2.1 d2.2.2.1.2)).length), (11, i6 (IntKind.i64.wrap (d2.2.1.1 + 1)))] [(32, (bx [sl d2.1.1.1.1 d2.1.1.1.2, sl d2.1.1.2.1 d2.1.1.2.2])), (64, (bx [.slc true [], .slc true []])), (688, (rw4 d2.2.2.2.1)), (1648, { v := 0, k := .row, fz := false, sz := 2, es := m2 (putsQ d2.2.2.2.2 d2.2.1.2.2.2.1 d2.2.2.1.2) })])))))
 (some (.inr (.exit 2, (sf [(2, pt 32), (4, pt 64), (7, .sref 688 0 0 (mW a).length), (10, .sref 1648 0 0 (m2 b).length)] [(32, (bx [sl D.1.1 D.1.2, sl D.2.1 D.2.2])), (64, (bx [.slc true [], .slc true []])), (688, (rw4 a)), (1648, { v := 0, k := .row, fz := false, sz := 2, es := m2 b })]))))
theorem e2s11_w (D : Desk_T) (now : Int) (i : Int) (a : List Wait_T) (b : List P2_T) : e2s11 D now i a b = e2s11_r D now i a b := by kernel_rfl

def gg2x (D : Desk_T) (a : List Wait_T) (b : List P2_T) : St := { fr := [(2, .ptr 32 0 0 0), (4, .ptr 64 0 0 0), (7, uV a), (10, vV b)], bs := (32, boxB (Tu.mk Desk_tfs D)) :: (64, boxB [.slc true [], .slc true []]) :: (uB a ++ vB b), df := [] }
theorem rcN_len (l : List Lease_T) (now c f m : Int) : ∀ (k : Nat) (x : Int), (rcN l now c f m k x).length ≤ k
 | 0, _ => Nat.le_refl _
 | k + 1, x => by
  have := rcN_len l now c f m k (x + 1)
  have h1 : (if rcK l now c f m x = true then [x] else []).length ≤ 1 := by split <;> simp
  show ((if rcK l now c f m x = true then [x] else []) ++ rcN l now c f m k (x + 1)).length ≤ k + 1
  rw [List.length_append]; omega
theorem rcF_len (L : List Lease_T) (now c f m : Int) : (rcF L now c f m).length ≤ 3 := rcN_len L now c f m 3 1
theorem e2_e (D : Desk_T) (now : Int) (i : Nat) (a : List Wait_T) (b : List P2_T) (hi : i < D.2.2.length) (hl : D.2.2.length ≤ 1000) (hD : D.1.2.length ≤ 1000) (hb : b.length ≤ 5000) : stepK Try.prog cfg Rc4 e4P 15 2 (gg2 D now i a b) = some (.inl (gg2 D now ((i + 1 : Nat) : Int) a (putsC b D.2.2[i].2.2.1 (rcF D.1.2 now D.2.2[i].1 D.2.2[i].2.2.1 D.2.2[i].2.2.2)))) := by
 have e1 : IntKind.i64.wrap ((i : Int) + 1) = ((i + 1 : Nat) : Int) := by rw [w64 (by omega) (by omega)]; omega
 have e2 : D.2.2.getD (i : Int).toNat (0, 0, 0, 0) = D.2.2[i] := by rw [Int.toNat_natCast, getD_at hi]
 have at_ : ∀ {Q : Option (St ⊕ (Ex × St)) → Prop} {g : Wait_T → Option (St ⊕ (Ex × St))}, Q (g D.2.2[i]) → Q (oK (elemAt true Wait_tfs (D.2.2.map (mkV true Wait_tfs)) i) g) := fun hg => oK_atq (fs := Wait_tfs) (0, 0, 0, 0) (by omega) (by simpa using hi) (by rw [e2]; exact hg)
 have hcl := rcF_len D.1.2 now D.2.2[i].1 D.2.2[i].2.2.1 D.2.2[i].2.2.2
 generalize hw : D.2.2[i] = v at hcl at_
 cases a with
 | nil =>
  cases b with
  | nil =>
   refine (e2s00_w D now i).trans ?_
   unfold e2s00_r
   refine bK_tq (Q := (· = _)) (by simp; omega) ?_
   refine at_ (Q := (· = _)) ?_
   refine oK_fsq (Q := (· = _)) crefS (D.1, now, v.1, v.2.2.1, v.2.2.2) (Nat.le_trans hD (by decide)) ?_
   dsimp only
   refine oK_lpf (Q := (· = _)) e4Hd_inj ((D, now), ((i : Int), v), ((rcF D.1.2 now v.1 v.2.2.1 v.2.2.2).isEmpty, rcF D.1.2 now v.1 v.2.2.1 v.2.2.2), [], []) ⟨Nat.le_trans hcl (by decide), hb⟩ rfl ?_
   dsimp only
   have eq : putsQ ([]) v.2.2.1 (rcF D.1.2 now v.1 v.2.2.1 v.2.2.2) = putsC ([]) v.2.2.1 (rcF D.1.2 now v.1 v.2.2.1 v.2.2.2) := rfl
   rw [eq]
   generalize putsC ([]) v.2.2.1 (rcF D.1.2 now v.1 v.2.2.1 v.2.2.2) = c
   refine bK_tq (Q := (· = _)) rfl ?_
   cases c with
   | nil =>
    refine bK_tq (Q := (· = _)) rfl ?_
    rw [e1]; rfl
   | cons c0 cr =>
    refine bK_fq (Q := (· = _)) rfl ?_
    rw [e1]; rfl
  | cons b0 br =>
   refine (e2s01_w D now i (b0 :: br)).trans ?_
   unfold e2s01_r
   refine bK_tq (Q := (· = _)) (by simp; omega) ?_
   refine at_ (Q := (· = _)) ?_
   refine oK_fsq (Q := (· = _)) crefS (D.1, now, v.1, v.2.2.1, v.2.2.2) (Nat.le_trans hD (by decide)) ?_
   dsimp only
   refine oK_lpf (Q := (· = _)) e4Hd_inj ((D, now), ((i : Int), v), ((rcF D.1.2 now v.1 v.2.2.1 v.2.2.2).isEmpty, rcF D.1.2 now v.1 v.2.2.1 v.2.2.2), [], b0 :: br) ⟨Nat.le_trans hcl (by decide), hb⟩ rfl ?_
   dsimp only
   have eq : putsQ (b0 :: br) v.2.2.1 (rcF D.1.2 now v.1 v.2.2.1 v.2.2.2) = putsC (b0 :: br) v.2.2.1 (rcF D.1.2 now v.1 v.2.2.1 v.2.2.2) := rfl
   rw [eq]
   generalize putsC (b0 :: br) v.2.2.1 (rcF D.1.2 now v.1 v.2.2.1 v.2.2.2) = c
   refine bK_tq (Q := (· = _)) rfl ?_
   cases c with
   | nil =>
    refine bK_tq (Q := (· = _)) rfl ?_
    rw [e1]; rfl
   | cons c0 cr =>
    refine bK_fq (Q := (· = _)) rfl ?_
    rw [e1]; rfl
 | cons a0 ar =>
  cases b with
  | nil =>
   refine (e2s10_w D now i (a0 :: ar)).trans ?_
   unfold e2s10_r
   refine bK_tq (Q := (· = _)) (by simp; omega) ?_
   refine at_ (Q := (· = _)) ?_
   refine oK_fsq (Q := (· = _)) crefS (D.1, now, v.1, v.2.2.1, v.2.2.2) (Nat.le_trans hD (by decide)) ?_
   dsimp only
   refine oK_lpf (Q := (· = _)) e4Hd_inj ((D, now), ((i : Int), v), ((rcF D.1.2 now v.1 v.2.2.1 v.2.2.2).isEmpty, rcF D.1.2 now v.1 v.2.2.1 v.2.2.2), a0 :: ar, []) ⟨Nat.le_trans hcl (by decide), hb⟩ rfl ?_
   dsimp only
   have eq : putsQ ([]) v.2.2.1 (rcF D.1.2 now v.1 v.2.2.1 v.2.2.2) = putsC ([]) v.2.2.1 (rcF D.1.2 now v.1 v.2.2.1 v.2.2.2) := rfl
   rw [eq]
   generalize putsC ([]) v.2.2.1 (rcF D.1.2 now v.1 v.2.2.1 v.2.2.2) = c
   refine bK_fq (Q := (· = _)) rfl ?_
   cases c with
   | nil =>
    refine bK_tq (Q := (· = _)) rfl ?_
    rw [e1]; rfl
   | cons c0 cr =>
    refine bK_fq (Q := (· = _)) rfl ?_
    rw [e1]; rfl
  | cons b0 br =>
   refine (e2s11_w D now i (a0 :: ar) (b0 :: br)).trans ?_
   unfold e2s11_r
   refine bK_tq (Q := (· = _)) (by simp; omega) ?_
   refine at_ (Q := (· = _)) ?_
   refine oK_fsq (Q := (· = _)) crefS (D.1, now, v.1, v.2.2.1, v.2.2.2) (Nat.le_trans hD (by decide)) ?_
   dsimp only
   refine oK_lpf (Q := (· = _)) e4Hd_inj ((D, now), ((i : Int), v), ((rcF D.1.2 now v.1 v.2.2.1 v.2.2.2).isEmpty, rcF D.1.2 now v.1 v.2.2.1 v.2.2.2), a0 :: ar, b0 :: br) ⟨Nat.le_trans hcl (by decide), hb⟩ rfl ?_
   dsimp only
   have eq : putsQ (b0 :: br) v.2.2.1 (rcF D.1.2 now v.1 v.2.2.1 v.2.2.2) = putsC (b0 :: br) v.2.2.1 (rcF D.1.2 now v.1 v.2.2.1 v.2.2.2) := rfl
   rw [eq]
   generalize putsC (b0 :: br) v.2.2.1 (rcF D.1.2 now v.1 v.2.2.1 v.2.2.2) = c
   refine bK_fq (Q := (· = _)) rfl ?_
   cases c with
   | nil =>
    refine bK_tq (Q := (· = _)) rfl ?_
    rw [e1]; rfl
   | cons c0 cr =>
    refine bK_fq (Q := (· = _)) rfl ?_
    rw [e1]; rfl
theorem e2_x (D : Desk_T) (now : Int) (i : Int) (a : List Wait_T) (b : List P2_T) (hk : ¬ i < (D.2.2.length : Int)) : stepK Try.prog cfg Rc4 e4P 15 2 (gg2 D now i a b) = some (.inr (.exit 2, gg2x D a b)) := by
 cases a with
 | nil =>
  cases b with
  | nil =>
   refine (e2s00_w D now i).trans ?_
   unfold e2s00_r
   exact bK_neg (by rw [List.length_map]; exact decide_eq_false hk)
  | cons b0 br =>
   refine (e2s01_w D now i (b0 :: br)).trans ?_
   unfold e2s01_r
   exact bK_neg (by rw [List.length_map]; exact decide_eq_false hk)
 | cons a0 ar =>
  cases b with
  | nil =>
   refine (e2s10_w D now i (a0 :: ar)).trans ?_
   unfold e2s10_r
   exact bK_neg (by rw [List.length_map]; exact decide_eq_false hk)
  | cons b0 br =>
   refine (e2s11_w D now i (a0 :: ar) (b0 :: br)).trans ?_
   unfold e2s11_r
   exact bK_neg (by rw [List.length_map]; exact decide_eq_false hk)
def callsR (L : List Lease_T) (now : Int) : List Wait_T → List P2_T → List P2_T
 | [], b => b
 | v :: r, b => callsR L now r (putsC b v.2.2.1 (rcF L now v.1 v.2.2.1 v.2.2.2))
theorem e2_run (D : Desk_T) (now : Int) (a : List Wait_T) (hl : D.2.2.length ≤ 50) (hD : D.1.2.length ≤ 1000) : ∀ (j i : Nat), i + j = D.2.2.length → ∀ (b : List P2_T), b.length + j * 3 ≤ 150 → ∀ (fu : Nat), j < fu → Runs' Try.prog cfg Rc4 15 2 fu (gg2 D now i a b) (.exit 2, gg2x D a (callsR D.1.2 now (D.2.2.drop i) b))
 | 0, i, hi, b, hb, fu + 1, hf => by
  rw [List.drop_of_length_le (by omega)]
  exact Runs'.done (lp := e4P) e4P_ok ea152 (e2_x D now i a b (by omega))
 | j + 1, i, hi, b, hb, fu + 1, hf => by
  have hi' : i < D.2.2.length := by omega
  have e : D.2.2.drop i = D.2.2[i] :: D.2.2.drop (i + 1) := List.drop_eq_getElem_cons hi'
  have h2 := putsC_len D.2.2[i].2.2.1 (rcF D.1.2 now D.2.2[i].1 D.2.2[i].2.2.1 D.2.2[i].2.2.2) b
  have h3 := rcF_len D.1.2 now D.2.2[i].1 D.2.2[i].2.2.1 D.2.2[i].2.2.2
  have hr := e2_run D now a hl hD j (i + 1) (by omega) (putsC b D.2.2[i].2.2.1 (rcF D.1.2 now D.2.2[i].1 D.2.2[i].2.2.1 D.2.2[i].2.2.2)) (by omega) fu (by omega)
  rw [e]
  exact Runs'.step (lp := e4P) e4P_ok ea152 (e2_e D now i a b hi' (by omega) (by omega) (by omega)) hr
abbrev E2D : Type := (Desk_T × Int) × List Wait_T
def e2Hd (d : E2D) : St := gg2 d.1.1 d.1.2 0 d.2 []
theorem e2Hd_inj (d d' : E2D) (h : e2Hd d = e2Hd d') : d = d' := by
 obtain ⟨⟨D, now⟩, a⟩ := d
 obtain ⟨⟨D', now'⟩, a'⟩ := d'
 simp only [e2Hd, gg2, boxB, St.mk.injEq, List.cons.injEq, Prod.mk.injEq, AV.slc.injEq, AV.int.injEq, Blk.mk.injEq, and_true, true_and] at h
 obtain ⟨⟨h1, _⟩, h6, h9⟩ := h
 obtain ⟨h10, h11⟩ := uB_inj h9
 rw [h1, mk_inj (fs := Desk_tfs) rfl h6, h10]
def calRQ (L : List Lease_T) (W : List Wait_T) (now : Int) : List P2_T := callsR L now W []
noncomputable def e2L : LP := LP.of e2Hd (fun d => d.1.1.2.2.length ≤ 50 ∧ d.1.1.1.2.length ≤ 1000) fun d => .ite (noW d.2) (.ite (noP (calRQ d.1.1.1.2 d.1.1.2.2 d.1.2)) (.leaf (.exit 2, { fr := [(2, .ptr 32 0 0 0), (4, .ptr 64 0 0 0), (7, .slc true []), (10, .slc true [])], bs := [(32, boxB (Tu.mk Desk_tfs d.1.1)), (64, boxB [.slc true [], .slc true []])], df := [] })) (.leaf (.exit 2, { fr := [(2, .ptr 32 0 0 0), (4, .ptr 64 0 0 0), (7, .slc true []), (10, .sref 1648 0 0 ((calRQ d.1.1.1.2 d.1.1.2.2 d.1.2).map (mkV true P2_fs)).length)], bs := [(32, boxB (Tu.mk Desk_tfs d.1.1)), (64, boxB [.slc true [], .slc true []]), (1648, { v := 0, k := .row, fz := false, sz := 2, es := (calRQ d.1.1.1.2 d.1.1.2.2 d.1.2).map (mkV true P2_fs) })], df := [] }))) (.ite (noP (calRQ d.1.1.1.2 d.1.1.2.2 d.1.2)) (.leaf (.exit 2, { fr := [(2, .ptr 32 0 0 0), (4, .ptr 64 0 0 0), (7, .sref 688 0 0 (d.2.map (mkV true Wait_tfs)).length), (10, .slc true [])], bs := [(32, boxB (Tu.mk Desk_tfs d.1.1)), (64, boxB [.slc true [], .slc true []]), (688, { v := 0, k := .row, fz := false, sz := 4, es := d.2.map (mkV true Wait_tfs) })], df := [] })) (.leaf (.exit 2, { fr := [(2, .ptr 32 0 0 0), (4, .ptr 64 0 0 0), (7, .sref 688 0 0 (d.2.map (mkV true Wait_tfs)).length), (10, .sref 1648 0 0 ((calRQ d.1.1.1.2 d.1.1.2.2 d.1.2).map (mkV true P2_fs)).length)], bs := [(32, boxB (Tu.mk Desk_tfs d.1.1)), (64, boxB [.slc true [], .slc true []]), (688, { v := 0, k := .row, fz := false, sz := 4, es := d.2.map (mkV true Wait_tfs) }), (1648, { v := 0, k := .row, fz := false, sz := 2, es := (calRQ d.1.1.1.2 d.1.1.2.2 d.1.2).map (mkV true P2_fs) })], df := [] })))
noncomputable def e2P : LPs := LPs.add e4P 15 2 e2L
theorem e2P_ok : LPok Try.prog cfg Rc4 e2P 15 := LPok.addH e4P_ok eo15 (by
 rintro ⟨⟨D, now⟩, a⟩ ⟨h1, h2⟩
 simp only at h1 h2
 have hr := e2_run D now a h1 h2 D.2.2.length 0 (by omega) [] (by simp only [List.length_nil]; omega) rounds (by simp only [rounds]; omega)
 rw [List.drop_zero] at hr
 refine cast ?_ hr
 congr 1
 have e : calRQ D.1.2 D.2.2 now = callsR D.1.2 now D.2.2 [] := rfl
 dsimp only
 rw [ite_hh2, e]
 cases a with
 | nil => cases callsR D.1.2 now D.2.2 [] with
  | nil => rfl
  | cons b0 br => rfl
 | cons a0 ar => cases callsR D.1.2 now D.2.2 [] with
  | nil => rfl
  | cons b0 br => rfl)

end Go.Proofs.Ytkanmigbbpppnaa
