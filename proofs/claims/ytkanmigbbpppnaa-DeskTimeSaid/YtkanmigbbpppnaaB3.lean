/- A part of the proof: contracts of functions. -/
import Derived.Test.YtkanmigbbpppnaaA3
import Derived.Test.YtkanmigbbpppnaaAbAny

set_option linter.unusedVariables false
set_option linter.unusedSimpArgs false
set_option maxRecDepth 100000
namespace Go.Proofs.Ytkanmigbbpppnaa
open Go Go.Ab
def e4h00 (D : Desk_T) (now : Int) (i : Int) (w : Wait_T) (cx : Bool) (cs : List Int) (k : Int) : St := { fr := [(1, .int .i64 now), (2, .ptr 32 0 0 0), (4, .ptr 64 0 0 0), (7, .slc true []), (10, .slc true []), (11, .int .i64 i), (12, .ptr 192 0 0 0), (13, .slc cx (cs.map (mkV false I1_tfs))), (14, .int .i64 k)], bs := [(32, boxB (Tu.mk Desk_tfs D)), (64, boxB [.slc true [], .slc true []]), (192, boxB (Tu.mk Wait_tfs w))], df := [] }
noncomputable def e4s00 (D : Desk_T) (now : Int) (i : Int) (w : Wait_T) (cx : Bool) (cs : List Int) (k : Int) : Option (St ⊕ (Ex × St)) := stepK Try.prog cfg Rc4 e6P 15 4 (e4h00 D now i w cx cs k)
noncomputable def e4s00_r (D : Desk_T) (now : Int) (i : Int) (w : Wait_T) (cx : Bool) (cs : List Int) (k : Int) : Option (St ⊕ Ex × St) :=
 bK (decide (k < (↑(mi cs).length : Int)))
 (oK (elemAt false I1_tfs (mi cs) k) fun (d0 : Int) =>
 oK (e6L.dec (sf [(1, i6 now), (2, pt 32), (4, pt 64), (7, .slc true []), (10, .slc true []), (11, i6 i), (12, pt 192), (13, .slc cx (mi cs)), (14, i6 k), (15, pt 240), (16, .bool false), (17, i6 0)] [(32, (bx [sl D.1.1 D.1.2, sl D.2.1 D.2.2])), (64, (bx [.slc true [], .slc true []])), (192, (bx [i6 w.1, i6 w.2.1, i6 w.2.2.1, i6 w.2.2.2])), (240, (bx [i6 w.2.2.1, i6 d0]))])) fun (d1 : (Desk_T × Int) × (Int × Int × Int × Int × Int) × ((Bool × List Int) × Int) × (Int × Int) × List Wait_T × List (Int × Int)) =>
 bK (noW d1.2.2.2.2.1)
 (bK (noP d1.2.2.2.2.2)
 (bK (!thQ d1.2.2.2.2.2 d1.2.2.2.1) (some (.inl (sf [(1, i6 d1.1.2), (2, pt 32), (4, pt 64), (7, .slc true []), (10, .sref 1648 0 0 1), (11, i6 d1.2.1.1), (12, pt 192), (13, .slc d1.2.2.1.1.1 (mi d1.2.2.1.1.2)), (14, i6 (IntKind.i64.wrap (d1.2.2.1.2 + 1)))] [(32, (bx [sl d1.1.1.1.1 d1.1.1.1.2, sl d1.1.1.2.1 d1.1.1.2.2])), (64, (bx [.slc true [], .slc true []])), (192, (bx [i6 d1.2.1.2.1, i6 d1.2.1.2.2.1, i6 d1.2.1.2.2.2.1, i6 d1.2.1.2.2.2.2])), (1648, { v := 0, k := .row, fz := false, sz := 2, es := [AV.agg [i6 d1.2.2.2.1.1, i6 d1.2.2.2.1.2]] })])))
 (some (.inl (sf [(1, i6 d1.1.2), (2, pt 32), (4, pt 64), (7, .slc true []), (10, .slc true []), (11, i6 d1.2.1.1), (12, pt 192), (13, .slc d1.2.2.1.1.1 (mi d1.2.2.1.1.2)), (14, i6 (IntKind.i64.wrap (d1.2.2.1.2 + 1)))] [(32, (bx [sl d1.1.1.1.1 d1.1.1.1.2, sl d1.1.1.2.1 d1.1.1.2.2])), (64, (bx [.slc true [], .slc true []])), (192, (bx [i6 d1.2.1.2.1, i6 d1.2.1.2.2.1, i6 d1.2.1.2.2.2.1, i6 d1.2.1.2.2.2.2]))]))))
 (bK (!thQ d1.2.2.2.2.2 d1.2.2.2.1)
 (bK (decide (0 + (m2 d1.2.2.2.2.2).length ≤ (m2 d1.2.2.2.2.2).length))
 (bK (decide (0 = 0 ∧ (m2 d1.2.2.2.2.2).length = (m2 d1.2.2.2.2.2).length) && bytesFit Try.prog 41 ((m2 d1.2.2.2.2.2).length + 1))
 (some (.inl (sf [(1, i6 d1.1.2), (2, pt 32), (4, pt 64), (7, .slc true []), (10, .sref 1648 0 0 ((m2 d1.2.2.2.2.2).length + 1)), (11, i6 d1.2.1.1), (12, pt 192), (13, .slc d1.2.2.1.1.1 (mi d1.2.2.1.1.2)), (14, i6 (IntKind.i64.wrap (d1.2.2.1.2 + 1)))] [(32, (bx [sl d1.1.1.1.1 d1.1.1.1.2, sl d1.1.1.2.1 d1.1.1.2.2])), (64, (bx [.slc true [], .slc true []])), (192, (bx [i6 d1.2.1.2.1, i6 d1.2.1.2.2.1, i6 d1.2.1.2.2.2.1, i6 d1.2.1.2.2.2.2])), (1648, { v := 0, k := .row, fz := false, sz := 2, es := List.take (m2 d1.2.2.2.2.2).length (m2 d1.2.2.2.2.2) ++ [AV.agg [i6 d1.2.2.2.1.1, i6 d1.2.2.2.1.2]] })]))) none)
 none)
 (some (.inl (sf [(1, i6 d1.1.2), (2, pt 32), (4, pt 64), (7, .slc true []), (10, .sref 1648 0 0 (m2 d1.2.2.2.2.2).length), (11, i6 d1.2.1.1), (12, pt 192), (13, .slc d1.2.2.1.1.1 (mi d1.2.2.1.1.2)), (14, i6 (IntKind.i64.wrap (d1.2.2.1.2 + 1)))] [(32, (bx [sl d1.1.1.1.1 d1.1.1.1.2, sl d1.1.1.2.1 d1.1.1.2.2])), (64, (bx [.slc true [], .slc true []])), (192, (bx [i6 d1.2.1.2.1, i6 d1.2.1.2.2.1, i6 d1.2.1.2.2.2.1, i6 d1.2.1.2.2.2.2])), (1648, { v := 0, k := .row, fz := false, sz := 2, es := m2 d1.2.2.2.2.2 })])))))
 (bK (noP d1.2.2.2.2.2)
 (bK (!thQ d1.2.2.2.2.2 d1.2.2.2.1) (some (.inl (sf [(1, i6 d1.1.2), (2, pt 32), (4, pt 64), (7, .sref 688 0 0 (mW d1.2.2.2.2.1).length), (10, .sref 1648 0 0 1), (11, i6 d1.2.1.1), (12, pt 192), (13, .slc d1.2.2.1.1.1 (mi d1.2.2.1.1.2)), (14, i6 (IntKind.i64.wrap (d1.2.2.1.2 + 1)))] [(32, (bx [sl d1.1.1.1.1 d1.1.1.1.2, sl d1.1.1.2.1 d1.1.1.2.2])), (64, (bx [.slc true [], .slc true []])), (192, (bx [i6 d1.2.1.2.1, i6 d1.2.1.2.2.1, i6 d1.2.1.2.2.2.1, i6 d1.2.1.2.2.2.2])), (688, (rw4 d1.2.2.2.2.1)), (1648, { v := 0, k := .row, fz := false, sz := 2, es := [AV.agg [i6 d1.2.2.2.1.1, i6 d1.2.2.2.1.2]] })])))
 (some (.inl (sf [(1, i6 d1.1.2), (2, pt 32), (4, pt 64), (7, .sref 688 0 0 (mW d1.2.2.2.2.1).length), (10, .slc true []), (11, i6 d1.2.1.1), (12, pt 192), (13, .slc d1.2.2.1.1.1 (mi d1.2.2.1.1.2)), (14, i6 (IntKind.i64.wrap (d1.2.2.1.2 + 1)))] [(32, (bx [sl d1.1.1.1.1 d1.1.1.1.2, sl d1.1.1.2.1 d1.1.1.2.2])), (64, (bx [.slc true [], .slc true []])), (192, (bx [i6 d1.2.1.2.1, i6 d1.2.1.2.2.1, i6 d1.2.1.2.2.2.1, i6 d1.2.1.2.2.2.2])), (688, (rw4 d1.2.2.2.2.1))]))))
 (bK (!thQ d1.2.2.2.2.2 d1.2.2.2.1)
 (bK (decide (0 + (m2 d1.2.2.2.2.2).length ≤ (m2 d1.2.2.2.2.2).length))
 (bK (decide (0 = 0 ∧ (m2 d1.2.2.2.2.2).length = (m2 d1.2.2.2.2.2).length) && bytesFit Try.prog 41 ((m2 d1.2.2.2.2.2).length + 1))
 (some
 (.inl
 (sf [(1, i6 d1.1.2), (2, pt 32), (4, pt 64), (7, .sref 688 0 0 (mW d1.2.2.2.2.1).length), (10, .sref 1648 0 0 ((m2 d1.2.2.2.2.2).length + 1)), (11, i6 d1.2.1.1), (12, pt 192), (13, .slc d1.2.2.1.1.1 (mi d1.2.2.1.1.2)), (14, i6 (IntKind.i64.wrap (d1.2.2.1.2 + 1)))] [(32, (bx [sl d1.1.1.1.1 d1.1.1.1.2, sl d1.1.1.2.1 d1.1.1.2.2])), (64, (bx [.slc true [], .slc true []])), (192, (bx [i6 d1.2.1.2.1, i6 d1.2.1.2.2.1, i6 d1.2.1.2.2.2.1, i6 d1.2.1.2.2.2.2])), (688, (rw4 d1.2.2.2.2.1)), (1648, { v := 0, k := .row, fz := false, sz := 2, es := List.take (m2 d1.2.2.2.2.2).length (m2 d1.2.2.2.2.2) ++ [AV.agg [i6 d1.2.2.2.1.1, i6 d1.2.2.2.1.2]] })])))
 none)
 none)
 (some (.inl (sf [(1, i6 d1.1.2), (2, pt 32), (4, pt 64), (7, .sref 688 0 0 (mW d1.2.2.2.2.1).length), (10, .sref 1648 0 0 (m2 d1.2.2.2.2.2).length), (11, i6 d1.2.1.1), (12, pt 192), (13, .slc d1.2.2.1.1.1 (mi d1.2.2.1.1.2)), (14, i6 (IntKind.i64.wrap (d1.2.2.1.2 + 1)))] [(32, (bx [sl d1.1.1.1.1 d1.1.1.1.2, sl d1.1.1.2.1 d1.1.1.2.2])), (64, (bx [.slc true [], .slc true []])), (192, (bx [i6 d1.2.1.2.1, i6 d1.2.1.2.2.1, i6 d1.2.1.2.2.2.1, i6 d1.2.1.2.2.2.2])), (688, (rw4 d1.2.2.2.2.1)), (1648, { v := 0, k := .row, fz := false, sz := 2, es := m2 d1.2.2.2.2.2 })]))))))
 (some (.inr (.exit 4, (sf [(1, i6 now), (2, pt 32), (4, pt 64), (7, .slc true []), (10, .slc true []), (11, i6 i)] [(32, (bx [sl D.1.1 D.1.2, sl D.2.1 D.2.2])), (64, (bx [.slc true [], .slc true []]))]))))
theorem e4s00_w (D : Desk_T) (now : Int) (i : Int) (w : Wait_T) (cx : Bool) (cs : List Int) (k : Int) : e4s00 D now i w cx cs k = e4s00_r D now i w cx cs k := by kernel_rfl

def e4h01 (D : Desk_T) (now : Int) (i : Int) (w : Wait_T) (cx : Bool) (cs : List Int) (k : Int) (b : List P2_T) : St := { fr := [(1, .int .i64 now), (2, .ptr 32 0 0 0), (4, .ptr 64 0 0 0), (7, .slc true []), (10, .sref 1648 0 0 (b.map (mkV true P2_fs)).length), (11, .int .i64 i), (12, .ptr 192 0 0 0), (13, .slc cx (cs.map (mkV false I1_tfs))), (14, .int .i64 k)], bs := [(32, boxB (Tu.mk Desk_tfs D)), (64, boxB [.slc true [], .slc true []]), (192, boxB (Tu.mk Wait_tfs w)), (1648, { v := 0, k := .row, fz := false, sz := 2, es := b.map (mkV true P2_fs) })], df := [] }
noncomputable def e4s01 (D : Desk_T) (now : Int) (i : Int) (w : Wait_T) (cx : Bool) (cs : List Int) (k : Int) (b : List P2_T) : Option (St ⊕ (Ex × St)) := stepK Try.prog cfg Rc4 e6P 15 4 (e4h01 D now i w cx cs k b)
noncomputable def e4s01_r (D : Desk_T) (now : Int) (i : Int) (w : Wait_T) (cx : Bool) (cs : List Int) (k : Int) (b : List P2_T) : Option (St ⊕ Ex × St) :=
 bK (decide (k < (↑(mi cs).length : Int)))
 (oK (elemAt false I1_tfs (mi cs) k) fun (d0 : Int) =>
 oK (e6L.dec (sf [(1, i6 now), (2, pt 32), (4, pt 64), (7, .slc true []), (10, .sref 1648 0 0 (m2 b).length), (11, i6 i), (12, pt 192), (13, .slc cx (mi cs)), (14, i6 k), (15, pt 240), (16, .bool false), (17, i6 0)] [(32, (bx [sl D.1.1 D.1.2, sl D.2.1 D.2.2])), (64, (bx [.slc true [], .slc true []])), (192, (bx [i6 w.1, i6 w.2.1, i6 w.2.2.1, i6 w.2.2.2])), (240, (bx [i6 w.2.2.1, i6 d0])), (1648, { v := 0, k := .row, fz := false, sz := 2, es := m2 b })])) fun (d1 : (Desk_T × Int) × (Int × Int × Int × Int × Int) × ((Bool × List Int) × Int) × (Int × Int) × List Wait_T × List (Int × Int)) =>
 bK (noW d1.2.2.2.2.1)
 (bK (noP d1.2.2.2.2.2)
 (bK (!thQ d1.2.2.2.2.2 d1.2.2.2.1) (some (.inl (sf [(1, i6 d1.1.2), (2, pt 32), (4, pt 64), (7, .slc true []), (10, .sref 1648 0 0 1), (11, i6 d1.2.1.1), (12, pt 192), (13, .slc d1.2.2.1.1.1 (mi d1.2.2.1.1.2)), (14, i6 (IntKind.i64.wrap (d1.2.2.1.2 + 1)))] [(32, (bx [sl d1.1.1.1.1 d1.1.1.1.2, sl d1.1.1.2.1 d1.1.1.2.2])), (64, (bx [.slc true [], .slc true []])), (192, (bx [i6 d1.2.1.2.1, i6 d1.2.1.2.2.1, i6 d1.2.1.2.2.2.1, i6 d1.2.1.2.2.2.2])), (1648, { v := 0, k := .row, fz := false, sz := 2, es := [AV.agg [i6 d1.2.2.2.1.1, i6 d1.2.2.2.1.2]] })])))
 (some (.inl (sf [(1, i6 d1.1.2), (2, pt 32), (4, pt 64), (7, .slc true []), (10, .slc true []), (11, i6 d1.2.1.1), (12, pt 192), (13, .slc d1.2.2.1.1.1 (mi d1.2.2.1.1.2)), (14, i6 (IntKind.i64.wrap (d1.2.2.1.2 + 1)))] [(32, (bx [sl d1.1.1.1.1 d1.1.1.1.2, sl d1.1.1.2.1 d1.1.1.2.2])), (64, (bx [.slc true [], .slc true []])), (192, (bx [i6 d1.2.1.2.1, i6 d1.2.1.2.2.1, i6 d1.2.1.2.2.2.1, i6 d1.2.1.2.2.2.2]))]))))
 (bK (!thQ d1.2.2.2.2.2 d1.2.2.2.1)
 (bK (decide (0 + (m2 d1.2.2.2.2.2).length ≤ (m2 d1.2.2.2.2.2).length))
 (bK (decide (0 = 0 ∧ (m2 d1.2.2.2.2.2).length = (m2 d1.2.2.2.2.2).length) && bytesFit Try.prog 41 ((m2 d1.2.2.2.2.2).length + 1))
 (some (.inl (sf [(1, i6 d1.1.2), (2, pt 32), (4, pt 64), (7, .slc true []), (10, .sref 1648 0 0 ((m2 d1.2.2.2.2.2).length + 1)), (11, i6 d1.2.1.1), (12, pt 192), (13, .slc d1.2.2.1.1.1 (mi d1.2.2.1.1.2)), (14, i6 (IntKind.i64.wrap (d1.2.2.1.2 + 1)))] [(32, (bx [sl d1.1.1.1.1 d1.1.1.1.2, sl d1.1.1.2.1 d1.1.1.2.2])), (64, (bx [.slc true [], .slc true []])), (192, (bx [i6 d1.2.1.2.1, i6 d1.2.1.2.2.1, i6 d1.2.1.2.2.2.1, i6 d1.2.1.2.2.2.2])), (1648, { v := 0, k := .row, fz := false, sz := 2, es := List.take (m2 d1.2.2.2.2.2).length (m2 d1.2.2.2.2.2) ++ [AV.agg [i6 d1.2.2.2.1.1, i6 d1.2.2.2.1.2]] })]))) none)
 none)
 (some (.inl (sf [(1, i6 d1.1.2), (2, pt 32), (4, pt 64), (7, .slc true []), (10, .sref 1648 0 0 (m2 d1.2.2.2.2.2).length), (11, i6 d1.2.1.1), (12, pt 192), (13, .slc d1.2.2.1.1.1 (mi d1.2.2.1.1.2)), (14, i6 (IntKind.i64.wrap (d1.2.2.1.2 + 1)))] [(32, (bx [sl d1.1.1.1.1 d1.1.1.1.2, sl d1.1.1.2.1 d1.1.1.2.2])), (64, (bx [.slc true [], .slc true []])), (192, (bx [i6 d1.2.1.2.1, i6 d1.2.1.2.2.1, i6 d1.2.1.2.2.2.1, i6 d1.2.1.2.2.2.2])), (1648, { v := 0, k := .row, fz := false, sz := 2, es := m2 d1.2.2.2.2.2 })])))))
 (bK (noP d1.2.2.2.2.2)
 (bK (!thQ d1.2.2.2.2.2 d1.2.2.2.1) (some (.inl (sf [(1, i6 d1.1.2), (2, pt 32), (4, pt 64), (7, .sref 688 0 0 (mW d1.2.2.2.2.1).length), (10, .sref 1648 0 0 1), (11, i6 d1.2.1.1), (12, pt 192), (13, .slc d1.2.2.1.1.1 (mi d1.2.2.1.1.2)), (14, i6 (IntKind.i64.wrap (d1.2.2.1.2 + 1)))] [(32, (bx [sl d1.1.1.1.1 d1.1.1.1.2, sl d1.1.1.2.1 d1.1.1.2.2])), (64, (bx [.slc true [], .slc true []])), (192, (bx [i6 d1.2.1.2.1, i6 d1.2.1.2.2.1, i6 d1.2.1.2.2.2.1, i6 d1.2.1.2.2.2.2])), (688, (rw4 d1.2.2.2.2.1)), (1648, { v := 0, k := .row, fz := false, sz := 2, es := [AV.agg [i6 d1.2.2.2.1.1, i6 d1.2.2.2.1.2]] })])))
 (some (.inl (sf [(1, i6 d1.1.2), (2, pt 32), (4, pt 64), (7, .sref 688 0 0 (mW d1.2.2.2.2.1).length), (10, .slc true []), (11, i6 d1.2.1.1), (12, pt 192), (13, .slc d1.2.2.1.1.1 (mi d1.2.2.1.1.2)), (14, i6 (IntKind.i64.wrap (d1.2.2.1.2 + 1)))] [(32, (bx [sl d1.1.1.1.1 d1.1.1.1.2, sl d1.1.1.2.1 d1.1.1.2.2])), (64, (bx [.slc true [], .slc true []])), (192, (bx [i6 d1.2.1.2.1, i6 d1.2.1.2.2.1, i6 d1.2.1.2.2.2.1, i6 d1.2.1.2.2.2.2])), (688, (rw4 d1.2.2.2.2.1))]))))
 (bK (!thQ d1.2.2.2.2.2 d1.2.2.2.1)
 (bK (decide (0 + (m2 d1.2.2.2.2.2).length ≤ (m2 d1.2.2.2.2.2).length))
 (bK (decide (0 = 0 ∧ (m2 d1.2.2.2.2.2).length = (m2 d1.2.2.2.2.2).length) && bytesFit Try.prog 41 ((m2 d1.2.2.2.2.2).length + 1))
 (some
 (.inl
 (sf [(1, i6 d1.1.2), (2, pt 32), (4, pt 64), (7, .sref 688 0 0 (mW d1.2.2.2.2.1).length), (10, .sref 1648 0 0 ((m2 d1.2.2.2.2.2).length + 1)), (11, i6 d1.2.1.1), (12, pt 192), (13, .slc d1.2.2.1.1.1 (mi d1.2.2.1.1.2)), (14, i6 (IntKind.i64.wrap (d1.2.2.1.2 + 1)))] [(32, (bx [sl d1.1.1.1.1 d1.1.1.1.2, sl d1.1.1.2.1 d1.1.1.2.2])), (64, (bx [.slc true [], .slc true []])), (192, (bx [i6 d1.2.1.2.1, i6 d1.2.1.2.2.1, i6 d1.2.1.2.2.2.1, i6 d1.2.1.2.2.2.2])), (688, (rw4 d1.2.2.2.2.1)), (1648, { v := 0, k := .row, fz := false, sz := 2, es := List.take (m2 d1.2.2.2.2.2).length (m2 d1.2.2.2.2.2) ++ [AV.agg [i6 d1.2.2.2.1.1, i6 d1.2.2.2.1.2]] })])))
 none)
 none)
 (some (.inl (sf [(1, i6 d1.1.2), (2, pt 32), (4, pt 64), (7, .sref 688 0 0 (mW d1.2.2.2.2.1).length), (10, .sref 1648 0 0 (m2 d1.2.2.2.2.2).length), (11, i6 d1.2.1.1), (12, pt 192), (13, .slc d1.2.2.1.1.1 (mi d1.2.2.1.1.2)), (14, i6 (IntKind.i64.wrap (d1.2.2.1.2 + 1)))] [(32, (bx [sl d1.1.1.1.1 d1.1.1.1.2, sl d1.1.1.2.1 d1.1.1.2.2])), (64, (bx [.slc true [], .slc true []])), (192, (bx [i6 d1.2.1.2.1, i6 d1.2.1.2.2.1, i6 d1.2.1.2.2.2.1, i6 d1.2.1.2.2.2.2])), (688, (rw4 d1.2.2.2.2.1)), (1648, { v := 0, k := .row, fz := false, sz := 2, es := m2 d1.2.2.2.2.2 })]))))))
 (some (.inr (.exit 4, (sf [(1, i6 now), (2, pt 32), (4, pt 64), (7, .slc true []), (10, .sref 1648 0 0 (m2 b).length), (11, i6 i)] [(32, (bx [sl D.1.1 D.1.2, sl D.2.1 D.2.2])), (64, (bx [.slc true [], .slc true []])), (1648, { v := 0, k := .row, fz := false, sz := 2, es := m2 b })]))))
theorem e4s01_w (D : Desk_T) (now : Int) (i : Int) (w : Wait_T) (cx : Bool) (cs : List Int) (k : Int) (b : List P2_T) : e4s01 D now i w cx cs k b = e4s01_r D now i w cx cs k b := by kernel_rfl

def e4h10 (D : Desk_T) (now : Int) (i : Int) (w : Wait_T) (cx : Bool) (cs : List Int) (k : Int) (a : List Wait_T) : St := { fr := [(1, .int .i64 now), (2, .ptr 32 0 0 0), (4, .ptr 64 0 0 0), (7, .sref 688 0 0 (a.map (mkV true Wait_tfs)).length), (10, .slc true []), (11, .int .i64 i), (12, .ptr 192 0 0 0), (13, .slc cx (cs.map (mkV false I1_tfs))), (14, .int .i64 k)], bs := [(32, boxB (Tu.mk Desk_tfs D)), (64, boxB [.slc true [], .slc true []]), (192, boxB (Tu.mk Wait_tfs w)), (688, { v := 0, k := .row, fz := false, sz := 4, es := a.map (mkV true Wait_tfs) })], df := [] }
noncomputable def e4s10 (D : Desk_T) (now : Int) (i : Int) (w : Wait_T) (cx : Bool) (cs : List Int) (k : Int) (a : List Wait_T) : Option (St ⊕ (Ex × St)) := stepK Try.prog cfg Rc4 e6P 15 4 (e4h10 D now i w cx cs k a)
noncomputable def e4s10_r (D : Desk_T) (now : Int) (i : Int) (w : Wait_T) (cx : Bool) (cs : List Int) (k : Int) (a : List Wait_T) : Option (St ⊕ Ex × St) :=
 bK (decide (k < (↑(mi cs).length : Int)))
 (oK (elemAt false I1_tfs (mi cs) k) fun (d0 : Int) =>
 oK (e6L.dec (sf [(1, i6 now), (2, pt 32), (4, pt 64), (7, .sref 688 0 0 (mW a).length), (10, .slc true []), (11, i6 i), (12, pt 192), (13, .slc cx (mi cs)), (14, i6 k), (15, pt 240), (16, .bool false), (17, i6 0)] [(32, (bx [sl D.1.1 D.1.2, sl D.2.1 D.2.2])), (64, (bx [.slc true [], .slc true []])), (192, (bx [i6 w.1, i6 w.2.1, i6 w.2.2.1, i6 w.2.2.2])), (240, (bx [i6 w.2.2.1, i6 d0])), (688, (rw4 a))])) fun (d1 : (Desk_T × Int) × (Int × Int × Int × Int × Int) × ((Bool × List Int) × Int) × (Int × Int) × List Wait_T × List (Int × Int)) =>
 bK (noW d1.2.2.2.2.1)
 (bK (noP d1.2.2.2.2.2)
 (bK (!thQ d1.2.2.2.2.2 d1.2.2.2.1) (some (.inl (sf [(1, i6 d1.1.2), (2, pt 32), (4, pt 64), (7, .slc true []), (10, .sref 1648 0 0 1), (11, i6 d1.2.1.1), (12, pt 192), (13, .slc d1.2.2.1.1.1 (mi d1.2.2.1.1.2)), (14, i6 (IntKind.i64.wrap (d1.2.2.1.2 + 1)))] [(32, (bx [sl d1.1.1.1.1 d1.1.1.1.2, sl d1.1.1.2.1 d1.1.1.2.2])), (64, (bx [.slc true [], .slc true []])), (192, (bx [i6 d1.2.1.2.1, i6 d1.2.1.2.2.1, i6 d1.2.1.2.2.2.1, i6 d1.2.1.2.2.2.2])), (1648, { v := 0, k := .row, fz := false, sz := 2, es := [AV.agg [i6 d1.2.2.2.1.1, i6 d1.2.2.2.1.2]] })])))
 (some (.inl (sf [(1, i6 d1.1.2), (2, pt 32), (4, pt 64), (7, .slc true []), (10, .slc true []), (11, i6 d1.2.1.1), (12, pt 192), (13, .slc d1.2.2.1.1.1 (mi d1.2.2.1.1.2)), (14, i6 (IntKind.i64.wrap (d1.2.2.1.2 + 1)))] [(32, (bx [sl d1.1.1.1.1 d1.1.1.1.2, sl d1.1.1.2.1 d1.1.1.2.2])), (64, (bx [.slc true [], .slc true []])), (192, (bx [i6 d1.2.1.2.1, i6 d1.2.1.2.2.1, i6 d1.2.1.2.2.2.1, i6 d1.2.1.2.2.2.2]))]))))
 (bK (!thQ d1.2.2.2.2.2 d1.2.2.2.1)
 (bK (decide (0 + (m2 d1.2.2.2.2.2).length ≤ (m2 d1.2.2.2.2.2).length))
 (bK (decide (0 = 0 ∧ (m2 d1.2.2.2.2.2).length = (m2 d1.2.2.2.2.2).length) && bytesFit Try.prog 41 ((m2 d1.2.2.2.2.2).length + 1))
 (some (.inl (sf [(1, i6 d1.1.2), (2, pt 32), (4, pt 64), (7, .slc true []), (10, .sref 1648 0 0 ((m2 d1.2.2.2.2.2).length + 1)), (11, i6 d1.2.1.1), (12, pt 192), (13, .slc d1.2.2.1.1.1 (mi d1.2.2.1.1.2)), (14, i6 (IntKind.i64.wrap (d1.2.2.1.2 + 1)))] [(32, (bx [sl d1.1.1.1.1 d1.1.1.1.2, sl d1.1.1.2.1 d1.1.1.2.2])), (64, (bx [.slc true [], .slc true []])), (192, (bx [i6 d1.2.1.2.1, i6 d1.2.1.2.2.1, i6 d1.2.1.2.2.2.1, i6 d1.2.1.2.2.2.2])), (1648, { v := 0, k := .row, fz := false, sz := 2, es := List.take (m2 d1.2.2.2.2.2).length (m2 d1.2.2.2.2.2) ++ [AV.agg [i6 d1.2.2.2.1.1, i6 d1.2.2.2.1.2]] })]))) none)
 none)
 (some (.inl (sf [(1, i6 d1.1.2), (2, pt 32), (4, pt 64), (7, .slc true []), (10, .sref 1648 0 0 (m2 d1.2.2.2.2.2).length), (11, i6 d1.2.1.1), (12, pt 192), (13, .slc d1.2.2.1.1.1 (mi d1.2.2.1.1.2)), (14, i6 (IntKind.i64.wrap (d1.2.2.1.2 + 1)))] [(32, (bx [sl d1.1.1.1.1 d1.1.1.1.2, sl d1.1.1.2.1 d1.1.1.2.2])), (64, (bx [.slc true [], .slc true []])), (192, (bx [i6 d1.2.1.2.1, i6 d1.2.1.2.2.1, i6 d1.2.1.2.2.2.1, i6 d1.2.1.2.2.2.2])), (1648, { v := 0, k := .row, fz := false, sz := 2, es := m2 d1.2.2.2.2.2 })])))))
 (bK (noP d1.2.2.2.2.2)
 (bK (!thQ d1.2.2.2.2.2 d1.2.2.2.1) (some (.inl (sf [(1, i6 d1.1.2), (2, pt 32), (4, pt 64), (7, .sref 688 0 0 (mW d1.2.2.2.2.1).length), (10, .sref 1648 0 0 1), (11, i6 d1.2.1.1), (12, pt 192), (13, .slc d1.2.2.1.1.1 (mi d1.2.2.1.1.2)), (14, i6 (IntKind.i64.wrap (d1.2.2.1.2 + 1)))] [(32, (bx [sl d1.1.1.1.1 d1.1.1.1.2, sl d1.1.1.2.1 d1.1.1.2.2])), (64, (bx [.slc true [], .slc true []])), (192, (bx [i6 d1.2.1.2.1, i6 d1.2.1.2.2.1, i6 d1.2.1.2.2.2.1, i6 d1.2.1.2.2.2.2])), (688, (rw4 d1.2.2.2.2.1)), (1648, { v := 0, k := .row, fz := false, sz := 2, es := [AV.agg [i6 d1.2.2.2.1.1, i6 d1.2.2.2.1.2]] })])))
 (some (.inl (sf [(1, i6 d1.1.2), (2, pt 32), (4, pt 64), (7, .sref 688 0 0 (mW d1.2.2.2.2.1).length), (10, .slc true []), (11, i6 d1.2.1.1), (12, pt 192), (13, .slc d1.2.2.1.1.1 (mi d1.2.2.1.1.2)), (14, i6 (IntKind.i64.wrap (d1.2.2.1.2 + 1)))] [(32, (bx [sl d1.1.1.1.1 d1.1.1.1.2, sl d1.1.1.2.1 d1.1.1.2.2])), (64, (bx [.slc true [], .slc true []])), (192, (bx [i6 d1.2.1.2.1, i6 d1.2.1.2.2.1, i6 d1.2.1.2.2.2.1, i6 d1.2.1.2.2.2.2])), (688, (rw4 d1.2.2.2.2.1))]))))
 (bK (!thQ d1.2.2.2.2.2 d1.2.2.2.1)
 (bK (decide (0 + (m2 d1.2.2.2.2.2).length ≤ (m2 d1.2.2.2.2.2).length))
 (bK (decide (0 = 0 ∧ (m2 d1.2.2.2.2.2).length = (m2 d1.2.2.2.2.2).length) && bytesFit Try.prog 41 ((m2 d1.2.2.2.2.2).length + 1))
 (some
 (.inl
 (sf [(1, i6 d1.1.2), (2, pt 32), (4, pt 64), (7, .sref 688 0 0 (mW d1.2.2.2.2.1).length), (10, .sref 1648 0 0 ((m2 d1.2.2.2.2.2).length + 1)), (11, i6 d1.2.1.1), (12, pt 192), (13, .slc d1.2.2.1.1.1 (mi d1.2.2.1.1.2)), (14, i6 (IntKind.i64.wrap (d1.2.2.1.2 + 1)))] [(32, (bx [sl d1.1.1.1.1 d1.1.1.1.2, sl d1.1.1.2.1 d1.1.1.2.2])), (64, (bx [.slc true [], .slc true []])), (192, (bx [i6 d1.2.1.2.1, i6 d1.2.1.2.2.1, i6 d1.2.1.2.2.2.1, i6 d1.2.1.2.2.2.2])), (688, (rw4 d1.2.2.2.2.1)), (1648, { v := 0, k := .row, fz := false, sz := 2, es := List.take (m2 d1.2.2.2.2.2).length (m2 d1.2.2.2.2.2) ++ [AV.agg [i6 d1.2.2.2.1.1, i6 d1.2.2.2.1.2]] })])))
 none)
 none)
 (some (.inl (sf [(1, i6 d1.1.2), (2, pt 32), (4, pt 64), (7, .sref 688 0 0 (mW d1.2.2.2.2.1).length), (10, .sref 1648 0 0 (m2 d1.2.2.2.2.2).length), (11, i6 d1.2.1.1), (12, pt 192), (13, .slc d1.2.2.1.1.1 (mi d1.2.2.1.1.2)), (14, i6 (IntKind.i64.wrap (d1.2.2.1.2 + 1)))] [(32, (bx [sl d1.1.1.1.1 d1.1.1.1.2, sl d1.1.1.2.1 d1.1.1.2.2])), (64, (bx [.slc true [], .slc true []])), (192, (bx [i6 d1.2.1.2.1, i6 d1.2.1.2.2.1, i6 d1.2.1.2.2.2.1, i6 d1.2.1.2.2.2.2])), (688, (rw4 d1.2.2.2.2.1)), (1648, { v := 0, k := .row, fz := false, sz := 2, es := m2 d1.2.2.2.2.2 })]))))))
 (some (.inr (.exit 4, (sf [(1, i6 now), (2, pt 32), (4, pt 64), (7, .sref 688 0 0 (mW a).length), (10, .slc true []), (11, i6 i)] [(32, (bx [sl D.1.1 D.1.2, sl D.2.1 D.2.2])), (64, (bx [.slc true [], .slc true []])), (688, (rw4 a))]))))
theorem e4s10_w (D : Desk_T) (now : Int) (i : Int) (w : Wait_T) (cx : Bool) (cs : List Int) (k : Int) (a : List Wait_T) : e4s10 D now i w cx cs k a = e4s10_r D now i w cx cs k a := by kernel_rfl

def e4h11 (D : Desk_T) (now : Int) (i : Int) (w : Wait_T) (cx : Bool) (cs : List Int) (k : Int) (a : List Wait_T) (b : List P2_T) : St := { fr := [(1, .int .i64 now), (2, .ptr 32 0 0 0), (4, .ptr 64 0 0 0), (7, .sref 688 0 0 (a.map (mkV true Wait_tfs)).length), (10, .sref 1648 0 0 (b.map (mkV true P2_fs)).length), (11, .int .i64 i), (12, .ptr 192 0 0 0), (13, .slc cx (cs.map (mkV false I1_tfs))), (14, .int .i64 k)], bs := [(32, boxB (Tu.mk Desk_tfs D)), (64, boxB [.slc true [], .slc true []]), (192, boxB (Tu.mk Wait_tfs w)), (688, { v := 0, k := .row, fz := false, sz := 4, es := a.map (mkV true Wait_tfs) }), (1648, { v := 0, k := .row, fz := false, sz := 2, es := b.map (mkV true P2_fs) })], df := [] }
noncomputable def e4s11 (D : Desk_T) (now : Int) (i : Int) (w : Wait_T) (cx : Bool) (cs : List Int) (k : Int) (a : List Wait_T) (b : List P2_T) : Option (St ⊕ (Ex × St)) := stepK Try.prog cfg Rc4 e6P 15 4 (e4h11 D now i w cx cs k a b)
noncomputable def e4s11_r (D : Desk_T) (now : Int) (i : Int) (w : Wait_T) (cx : Bool) (cs : List Int) (k : Int) (a : List Wait_T) (b : List P2_T) : Option (St ⊕ Ex × St) :=
 bK (decide (k < (↑(mi cs).length : Int)))
 (oK (elemAt false I1_tfs (mi cs) k) fun (d0 : Int) =>
 oK (e6L.dec (sf [(1, i6 now), (2, pt 32), (4, pt 64), (7, .sref 688 0 0 (mW a).length), (10, .sref 1648 0 0 (m2 b).length), (11, i6 i), (12, pt 192), (13, .slc cx (mi cs)), (14, i6 k), (15, pt 240), (16, .bool false), (17, i6 0)] [(32, (bx [sl D.1.1 D.1.2, sl D.2.1 D.2.2])), (64, (bx [.slc true [], .slc true []])), (192, (bx [i6 w.1, i6 w.2.1, i6 w.2.2.1, i6 w.2.2.2])), (240, (bx [i6 w.2.2.1, i6 d0])), (688, (rw4 a)), (1648, { v := 0, k := .row, fz := false, sz := 2, es := m2 b })])) fun (d1 : (Desk_T × Int) × (Int × Int × Int × Int × Int) × ((Bool × List Int) × Int) × (Int × Int) × List Wait_T × List (Int × Int)) =>
 bK (noW d1.2.2.2.2.1)
 (bK (noP d1.2.2.2.2.2)
 (bK (!thQ d1.2.2.2.2.2 d1.2.2.2.1) (some (.inl (sf [(1, i6 d1.1.2), (2, pt 32), (4, pt 64), (7, .slc true []), (10, .sref 1648 0 0 1), (11, i6 d1.2.1.1), (12, pt 192), (13, .slc d1.2.2.1.1.1 (mi d1.2.2.1.1.2)), (14, i6 (IntKind.i64.wrap (d1.2.2.1.2 + 1)))] [(32, (bx [sl d1.1.1.1.1 d1.1.1.1.2, sl d1.1.1.2.1 d1.1.1.2.2])), (64, (bx [.slc true [], .slc true []])), (192, (bx [i6 d1.2.1.2.1, i6 d1.2.1.2.2.1, i6 d1.2.1.2.2.2.1, i6 d1.2.1.2.2.2.2])), (1648, { v := 0, k := .row, fz := false, sz := 2, es := [AV.agg [i6 d1.2.2.2.1.1, i6 d1.2.2.2.1.2]] })])))
 (some (.inl (sf [(1, i6 d1.1.2), (2, pt 32), (4, pt 64), (7, .slc true []), (10, .slc true []), (11, i6 d1.2.1.1), (12, pt 192), (13, .slc d1.2.2.1.1.1 (mi d1.2.2.1.1.2)), (14, i6 (IntKind.i64.wrap (d1.2.2.1.2 + 1)))] [(32, (bx [sl d1.1.1.1.1 d1.1.1.1.2, sl d1.1.1.2.1 d1.1.1.2.2])), (64, (bx [.slc true [], .slc true []])), (192, (bx [i6 d1.2.1.2.1, i6 d1.2.1.2.2.1, i6 d1.2.1.2.2.2.1, i6 d1.2.1.2.2.2.2]))]))))
 (bK (!thQ d1.2.2.2.2.2 d1.2.2.2.1)
 (bK (decide (0 + (m2 d1.2.2.2.2.2).length ≤ (m2 d1.2.2.2.2.2).length))
 (bK (decide (0 = 0 ∧ (m2 d1.2.2.2.2.2).length = (m2 d1.2.2.2.2.2).length) && bytesFit Try.prog 41 ((m2 d1.2.2.2.2.2).length + 1))
 (some (.inl (sf [(1, i6 d1.1.2), (2, pt 32), (4, pt 64), (7, .slc true []), (10, .sref 1648 0 0 ((m2 d1.2.2.2.2.2).length + 1)), (11, i6 d1.2.1.1), (12, pt 192), (13, .slc d1.2.2.1.1.1 (mi d1.2.2.1.1.2)), (14, i6 (IntKind.i64.wrap (d1.2.2.1.2 + 1)))] [(32, (bx [sl d1.1.1.1.1 d1.1.1.1.2, sl d1.1.1.2.1 d1.1.1.2.2])), (64, (bx [.slc true [], .slc true []])), (192, (bx [i6 d1.2.1.2.1, i6 d1.2.1.2.2.1, i6 d1.2.1.2.2.2.1, i6 d1.2.1.2.2.2.2])), (1648, { v := 0, k := .row, fz := false, sz := 2, es := List.take (m2 d1.2.2.2.2.2).length (m2 d1.2.2.2.2.2) ++ [AV.agg [i6 d1.2.2.2.1.1, i6 d1.2.2.2.1.2]] })]))) none)
 none)
 (some (.inl (sf [(1, i6 d1.1.2), (2, pt 32), (4, pt 64), (7, .slc true []), (10, .sref 1648 0 0 (m2 d1.2.2.2.2.2).length), (11, i6 d1.2.1.1), (12, pt 192), (13, .slc d1.2.2.1.1.1 (mi d1.2.2.1.1.2)), (14, i6 (IntKind.i64.wrap (d1.2.2.1.2 + 1)))] [(32, (bx [sl d1.1.1.1.1 d1.1.1.1.2, sl d1.1.1.2.1 d1.1.1.2.2])), (64, (bx [.slc true [], .slc true []])), (192, (bx [i6 d1.2.1.2.1, i6 d1.2.1.2.2.1, i6 d1.2.1.2.2.2.1, i6 d1.2.1.2.2.2.2])), (1648, { v := 0, k := .row, fz := false, sz := 2, es := m2 d1.2.2.2.2.2 })])))))
 (bK (noP d1.2.2.2.2.2)
 (bK (!thQ d1.2.2.2.2.2 d1.2.2.2.1) (some (.inl (sf [(1, i6 d1.1.2), (2, pt 32), (4, pt 64), (7, .sref 688 0 0 (mW d1.2.2.2.2.1).length), (10, .sref 1648 0 0 1), (11, i6 d1.2.1.1), (12, pt 192), (13, .slc d1.2.2.1.1.1 (mi d1.2.2.1.1.2)), (14, i6 (IntKind.i64.wrap (d1.2.2.1.2 + 1)))] [(32, (bx [sl d1.1.1.1.1 d1.1.1.1.2, sl d1.1.1.2.1 d1.1.1.2.2])), (64, (bx [.slc true [], .slc true []])), (192, (bx [i6 d1.2.1.2.1, i6 d1.2.1.2.2.1, i6 d1.2.1.2.2.2.1, i6 d1.2.1.2.2.2.2])), (688, (rw4 d1.2.2.2.2.1)), (1648, { v := 0, k := .row, fz := false, sz := 2, es := [AV.agg [i6 d1.2.2.2.1.1, i6 d1.2.2.2.1.2]] })])))
 (some (.inl (sf [(1, i6 d1.1.2), (2, pt 32), (4, pt 64), (7, .sref 688 0 0 (mW d1.2.2.2.2.1).length), (10, .slc true []), (11, i6 d1.2.1.1), (12, pt 192), (13, .slc d1.2.2.1.1.1 (mi d1.2.2.1.1.2)), (14, i6 (IntKind.i64.wrap (d1.2.2.1.2 + 1)))] [(32, (bx [sl d1.1.1.1.1 d1.1.1.1.2, sl d1.1.1.2.1 d1.1.1.2.2])), (64, (bx [.slc true [], .slc true []])), (192, (bx [i6 d1.2.1.2.1, i6 d1.2.1.2.2.1, i6 d1.2.1.2.2.2.1, i6 d1.2.1.2.2.2.2])), (688, (rw4 d1.2.2.2.2.1))]))))
 (bK (!thQ d1.2.2.2.2.2 d1.2.2.2.1)
 (bK (decide (0 + (m2 d1.2.2.2.2.2).length ≤ (m2 d1.2.2.2.2.2).length))
 (bK (decide (0 = 0 ∧ (m2 d1.2.2.2.2.2).length = (m2 d1.2.2.2.2.2).length) && bytesFit Try.prog 41 ((m2 d1.2.2.2.2.2).length + 1))
 (some
 (.inl
 (sf [(1, i6 d1.1.2), (2, pt 32), (4, pt 64), (7, .sref 688 0 0 (mW d1.2.2.2.2.1).length), (10, .sref 1648 0 0 ((m2 d1.2.2.2.2.2).length + 1)), (11, i6 d1.2.1.1), (12, pt 192), (13, .slc d1.2.2.1.1.1 (mi d1.2.2.1.1.2)), (14, i6 (IntKind.i64.wrap (d1.2.2.1.2 + 1)))] [(32, (bx [sl d1.1.1.1.1 d1.1.1.1.2, sl d1.1.1.2.1 d1.1.1.2.2])), (64, (bx [.slc true [], .slc true []])), (192, (bx [i6 d1.2.1.2.1, i6 d1.2.1.2.2.1, i6 d1.2.1.2.2.2.1, i6 d1.2.1.2.2.2.2])), (688, (rw4 d1.2.2.2.2.1)), (1648, { v := 0, k := .row, fz := false, sz := 2, es := List.take (m2 d1.2.2.2.2.2).length (m2 d1.2.2.2.2.2) ++ [AV.agg [i6 d1.2.2.2.1.1, i6 d1.2.2.2.1.2]] })])))
 none)
 none)
 (some (.inl (sf [(1, i6 d1.1.2), (2, pt 32), (4, pt 64), (7, .sref 688 0 0 (mW d1.2.2.2.2.1).length), (10, .sref 1648 0 0 (m2 d1.2.2.2.2.2).length), (11, i6 d1.2.1.1), (12, pt 192), (13, .slc d1.2.2.1.1.1 (mi d1.2.2.1.1.2)), (14, i6 (IntKind.i64.wrap (d1.2.2.1.2 + 1)))] [(32, (bx [sl d1.1.1.1.1 d1.1.1.1.2, sl d1.1.1.2.1 d1.1.1.2.2])), (64, (bx [.slc true [], .slc true []])), (192, (bx [i6 d1.2.1.2.1, i6 d1.2.1.2.2.1, i6 d1.2.1.2.2.2.1, i6 d1.2.1.2.2.2.2])), (688, (rw4 d1.2.2.2.2.1)), (1648, { v := 0, k := .row, fz := false, sz := 2, es := m2 d1.2.2.2.2.2 })]))))))
 (some (.inr (.exit 4, (sf [(1, i6 now), (2, pt 32), (4, pt 64), (7, .sref 688 0 0 (mW a).length), (10, .sref 1648 0 0 (m2 b).length), (11, i6 i)] [(32, (bx [sl D.1.1 D.1.2, sl D.2.1 D.2.2])), (64, (bx [.slc true [], .slc true []])), (688, (rw4 a)), (1648, { v := 0, k := .row, fz := false, sz := 2, es := m2 b })]))))
theorem e4s11_w (D : Desk_T) (now : Int) (i : Int) (w : Wait_T) (cx : Bool) (cs : List Int) (k : Int) (a : List Wait_T) (b : List P2_T) : e4s11 D now i w cx cs k a b = e4s11_r D now i w cx cs k a b := by kernel_rfl

def gg4 (D : Desk_T) (now : Int) (i : Int) (w : Wait_T) (cx : Bool) (cs : List Int) (k : Int) (a : List Wait_T) (b : List P2_T) : St := { fr := [(1, .int .i64 now), (2, .ptr 32 0 0 0), (4, .ptr 64 0 0 0), (7, uV a), (10, vV b), (11, .int .i64 i), (12, .ptr 192 0 0 0), (13, .slc cx (cs.map (mkV false I1_tfs))), (14, .int .i64 k)], bs := (32, boxB (Tu.mk Desk_tfs D)) :: (64, boxB [.slc true [], .slc true []]) :: (192, boxB (Tu.mk Wait_tfs w)) :: (uB a ++ vB b), df := [] }
def gg2 (D : Desk_T) (now : Int) (i : Int) (a : List Wait_T) (b : List P2_T) : St := { fr := [(1, .int .i64 now), (2, .ptr 32 0 0 0), (4, .ptr 64 0 0 0), (7, uV a), (10, vV b), (11, .int .i64 i)], bs := (32, boxB (Tu.mk Desk_tfs D)) :: (64, boxB [.slc true [], .slc true []]) :: (uB a ++ vB b), df := [] }
theorem thQ_in (b : List P2_T) (p : P2_T) : thQ b p = inQ b p := by
 have e : thQ b p = b.any (fun x => decide (x = p)) := rfl
 rw [Bool.eq_iff_iff, inQ_iff, e, List.any_eq_true]
 constructor
 ·rintro ⟨x, h1, h2⟩; rw [of_decide_eq_true h2] at h1; exact h1
 ·intro h; exact ⟨p, h, decide_eq_true rfl⟩
theorem e4_e (D : Desk_T) (now : Int) (i : Int) (w : Wait_T) (cx : Bool) (cs : List Int) (k : Nat) (a : List Wait_T) (b : List P2_T) (hk : k < cs.length) (hc : cs.length ≤ 1000) (hb : b.length ≤ 10000) : stepK Try.prog cfg Rc4 e6P 15 4 (gg4 D now i w cx cs k a b) = some (.inl (gg4 D now i w cx cs ((k + 1 : Nat) : Int) a (putC b (w.2.2.1, cs[k])))) := by
 have e1 : IntKind.i64.wrap ((k : Int) + 1) = ((k + 1 : Nat) : Int) := by rw [w64 (by omega) (by omega)]; omega
 have e2 : cs.getD (k : Int).toNat 0 = cs[k] := by rw [Int.toNat_natCast, getD_at hk]
 have at_ : ∀ {Q : Option (St ⊕ (Ex × St)) → Prop} {g : Int → Option (St ⊕ (Ex × St))}, Q (g cs[k]) → Q (oK (elemAt false I1_tfs (cs.map (mkV false I1_tfs)) k) g) := fun hg => oK_atq (fs := I1_tfs) (0 : Int) (by omega) (by simpa using hk) (by rw [e2]; exact hg)
 have hin : ∀ p, inQ [] p = false := fun p => rfl
 have hT : ∀ {b : List P2_T} {p : P2_T}, inQ b p = true → putC b p = b := fun h => if_pos h
 have hF : ∀ {b : List P2_T} {p : P2_T}, inQ b p = false → putC b p = b ++ [p] := fun h => if_neg (by rw [h]; simp)
 cases a with
 | nil =>
  cases b with
  | nil =>
   refine (e4s00_w D now i w cx cs k).trans ?_
   unfold e4s00_r
   refine bK_tq (Q := (· = _)) (by simp; omega) ?_
   refine at_ (Q := (· = _)) ?_
   refine oK_lpf (Q := (· = _)) e6Hd_inj ((D, now), (i, w), ((cx, cs), (k : Int)), (w.2.2.1, cs[k]), [], []) hb rfl ?_
   dsimp only
   rw [e1]
   refine bK_tq (Q := (· = _)) rfl (bK_tq (Q := (· = _)) rfl ?_)
   rw [hF (hin _)]
   exact bK_tq (Q := (· = _)) (by rw [thQ_in]; rfl) rfl
  | cons b0 br =>
   refine (e4s01_w D now i w cx cs k (b0 :: br)).trans ?_
   unfold e4s01_r
   refine bK_tq (Q := (· = _)) (by simp; omega) ?_
   refine at_ (Q := (· = _)) ?_
   refine oK_lpf (Q := (· = _)) e6Hd_inj ((D, now), (i, w), ((cx, cs), (k : Int)), (w.2.2.1, cs[k]), [], b0 :: br) hb rfl ?_
   dsimp only
   rw [e1]
   refine bK_tq (Q := (· = _)) rfl (bK_fq (Q := (· = _)) rfl ?_)
   rw [thQ_in]
   cases hq : inQ (b0 :: br) (w.2.2.1, cs[k]) with
   | true => rw [hT hq]; rfl
   | false =>
    rw [hF hq]
    refine bK_tq (Q := (· = _)) rfl (bK_tq (Q := (· = _)) (by simp) (bK_tq (Q := (· = _)) (by rw [Bool.and_eq_true]; exact ⟨by simp, p2fit (by rw [List.length_map]; omega)⟩) ?_))
    unfold gg4
    rw [(vV_put (by simp) _).1, (vV_put (by simp) _).2]
    rfl
 | cons a0 ar =>
  cases b with
  | nil =>
   refine (e4s10_w D now i w cx cs k (a0 :: ar)).trans ?_
   unfold e4s10_r
   refine bK_tq (Q := (· = _)) (by simp; omega) ?_
   refine at_ (Q := (· = _)) ?_
   refine oK_lpf (Q := (· = _)) e6Hd_inj ((D, now), (i, w), ((cx, cs), (k : Int)), (w.2.2.1, cs[k]), a0 :: ar, []) hb rfl ?_
   dsimp only
   rw [e1]
   refine bK_fq (Q := (· = _)) rfl (bK_tq (Q := (· = _)) rfl ?_)
   rw [hF (hin _)]
   exact bK_tq (Q := (· = _)) (by rw [thQ_in]; rfl) rfl
  | cons b0 br =>
   refine (e4s11_w D now i w cx cs k (a0 :: ar) (b0 :: br)).trans ?_
   unfold e4s11_r
   refine bK_tq (Q := (· = _)) (by simp; omega) ?_
   refine at_ (Q := (· = _)) ?_
   refine oK_lpf (Q := (· = _)) e6Hd_inj ((D, now), (i, w), ((cx, cs), (k : Int)), (w.2.2.1, cs[k]), a0 :: ar, b0 :: br) hb rfl ?_
   dsimp only
   rw [e1]
   refine bK_fq (Q := (· = _)) rfl (bK_fq (Q := (· = _)) rfl ?_)
   rw [thQ_in]
   cases hq : inQ (b0 :: br) (w.2.2.1, cs[k]) with
   | true => rw [hT hq]; rfl
   | false =>
    rw [hF hq]
    refine bK_tq (Q := (· = _)) rfl (bK_tq (Q := (· = _)) (by simp) (bK_tq (Q := (· = _)) (by rw [Bool.and_eq_true]; exact ⟨by simp, p2fit (by rw [List.length_map]; omega)⟩) ?_))
    unfold gg4
    rw [(vV_put (by simp) _).1, (vV_put (by simp) _).2]
    rfl
theorem e4_x (D : Desk_T) (now : Int) (i : Int) (w : Wait_T) (cx : Bool) (cs : List Int) (k : Int) (a : List Wait_T) (b : List P2_T) (hk : ¬ k < (cs.length : Int)) : stepK Try.prog cfg Rc4 e6P 15 4 (gg4 D now i w cx cs k a b) = some (.inr (.exit 4, gg2 D now i a b)) := by
 cases a with
 | nil =>
  cases b with
  | nil =>
   refine (e4s00_w D now i w cx cs k).trans ?_
   unfold e4s00_r
   exact bK_neg (by rw [List.length_map]; exact decide_eq_false hk)
  | cons b0 br =>
   refine (e4s01_w D now i w cx cs k (b0 :: br)).trans ?_
   unfold e4s01_r
   exact bK_neg (by rw [List.length_map]; exact decide_eq_false hk)
 | cons a0 ar =>
  cases b with
  | nil =>
   refine (e4s10_w D now i w cx cs k (a0 :: ar)).trans ?_
   unfold e4s10_r
   exact bK_neg (by rw [List.length_map]; exact decide_eq_false hk)
  | cons b0 br =>
   refine (e4s11_w D now i w cx cs k (a0 :: ar) (b0 :: br)).trans ?_
   unfold e4s11_r
   exact bK_neg (by rw [List.length_map]; exact decide_eq_false hk)
theorem e4_run (D : Desk_T) (now : Int) (i : Int) (w : Wait_T) (cx : Bool) (cs : List Int) (a : List Wait_T) (hc : cs.length ≤ 1000) : ∀ (j k : Nat), k + j = cs.length → ∀ (b : List P2_T), b.length + j ≤ 10000 → ∀ (fu : Nat), j < fu → Runs' Try.prog cfg Rc4 15 4 fu (gg4 D now i w cx cs k a b) (.exit 4, gg2 D now i a (putsC b w.2.2.1 (cs.drop k)))
 | 0, k, hk, b, hb, fu + 1, hf => by
  rw [List.drop_of_length_le (by omega)]
  exact Runs'.done (lp := e6P) e6P_ok ea154 (e4_x D now i w cx cs k a b (by omega))
 | j + 1, k, hk, b, hb, fu + 1, hf => by
  have hk' : k < cs.length := by omega
  have e : cs.drop k = cs[k] :: cs.drop (k + 1) := List.drop_eq_getElem_cons hk'
  have := putC_len b (w.2.2.1, cs[k])
  have hr := e4_run D now i w cx cs a hc j (k + 1) (by omega) (putC b (w.2.2.1, cs[k])) (by omega) fu (by omega)
  rw [e]
  exact Runs'.step (lp := e6P) e6P_ok ea154 (e4_e D now i w cx cs k a b hk' hc (by omega)) hr
abbrev E4D : Type := (Desk_T × Int) × (Int × Wait_T) × (Bool × List Int) × List Wait_T × List P2_T
def e4Hd (d : E4D) : St := gg4 d.1.1 d.1.2 d.2.1.1 d.2.1.2 d.2.2.1.1 d.2.2.1.2 0 d.2.2.2.1 d.2.2.2.2
theorem e4Hd_inj (d d' : E4D) (h : e4Hd d = e4Hd d') : d = d' := by
 obtain ⟨⟨D, now⟩, ⟨i, w⟩, ⟨cx, cs⟩, a, b⟩ := d
 obtain ⟨⟨D', now'⟩, ⟨i', w'⟩, ⟨cx', cs'⟩, a', b'⟩ := d'
 simp only [e4Hd, gg4, boxB, St.mk.injEq, List.cons.injEq, Prod.mk.injEq, AV.slc.injEq, AV.int.injEq, Blk.mk.injEq, and_true, true_and] at h
 obtain ⟨⟨h1, _, _, h2, h3, h4⟩, h6, h7, h9⟩ := h
 obtain ⟨h10, h11⟩ := uB_inj h9
 rw [h1, h2, h3, map_inj (agg := false) (fs := I1_tfs) rfl h4, mk_inj (fs := Desk_tfs) rfl h6, mk_inj (fs := Wait_tfs) rfl h7, h10, h11]
noncomputable def e4L : LP := LP.of e4Hd (fun d => d.2.2.1.2.length ≤ 1000 ∧ d.2.2.2.2.length ≤ 5000) fun d => .ite (noW d.2.2.2.1) (.ite (noP (putsQ d.2.2.2.2 d.2.1.2.2.2.1 d.2.2.1.2)) (.leaf (.exit 4, { fr := [(1, .int .i64 d.1.2), (2, .ptr 32 0 0 0), (4, .ptr 64 0 0 0), (7, .slc true []), (10, .slc true []), (11, .int .i64 d.2.1.1)], bs := [(32, boxB (Tu.mk Desk_tfs d.1.1)), (64, boxB [.slc true [], .slc true []])], df := [] })) (.leaf (.exit 4, { fr := [(1, .int .i64 d.1.2), (2, .ptr 32 0 0 0), (4, .ptr 64 0 0 0), (7, .slc true []), (10, .sref 1648 0 0 ((putsQ d.2.2.2.2 d.2.1.2.2.2.1 d.2.2.1.2).map (mkV true P2_fs)).length), (11, .int .i64 d.2.1.1)], bs := [(32, boxB (Tu.mk Desk_tfs d.1.1)), (64, boxB [.slc true [], .slc true []]), (1648, { v := 0, k := .row, fz := false, sz := 2, es := (putsQ d.2.2.2.2 d.2.1.2.2.2.1 d.2.2.1.2).map (mkV true P2_fs) })], df := [] }))) (.ite (noP (putsQ d.2.2.2.2 d.2.1.2.2.2.1 d.2.2.1.2)) (.leaf (.exit 4, { fr := [(1, .int .i64 d.1.2), (2, .ptr 32 0 0 0), (4, .ptr 64 0 0 0), (7, .sref 688 0 0 (d.2.2.2.1.map (mkV true Wait_tfs)).length), (10, .slc true []), (11, .int .i64 d.2.1.1)], bs := [(32, boxB (Tu.mk Desk_tfs d.1.1)), (64, boxB [.slc true [], .slc true []]), (688, { v := 0, k := .row, fz := false, sz := 4, es := d.2.2.2.1.map (mkV true Wait_tfs) })], df := [] })) (.leaf (.exit 4, { fr := [(1, .int .i64 d.1.2), (2, .ptr 32 0 0 0), (4, .ptr 64 0 0 0), (7, .sref 688 0 0 (d.2.2.2.1.map (mkV true Wait_tfs)).length), (10, .sref 1648 0 0 ((putsQ d.2.2.2.2 d.2.1.2.2.2.1 d.2.2.1.2).map (mkV true P2_fs)).length), (11, .int .i64 d.2.1.1)], bs := [(32, boxB (Tu.mk Desk_tfs d.1.1)), (64, boxB [.slc true [], .slc true []]), (688, { v := 0, k := .row, fz := false, sz := 4, es := d.2.2.2.1.map (mkV true Wait_tfs) }), (1648, { v := 0, k := .row, fz := false, sz := 2, es := (putsQ d.2.2.2.2 d.2.1.2.2.2.1 d.2.2.1.2).map (mkV true P2_fs) })], df := [] })))
noncomputable def e4P : LPs := LPs.add e6P 15 4 e4L
theorem e4P_ok : LPok Try.prog cfg Rc4 e4P 15 := LPok.addH e6P_ok eo15 (by
 rintro ⟨⟨D, now⟩, ⟨i, w⟩, ⟨cx, cs⟩, a, b⟩ ⟨h1, h2⟩
 simp only at h1 h2
 have hr := e4_run D now i w cx cs a h1 cs.length 0 (by omega) b (by omega) rounds (by simp only [rounds]; omega)
 rw [List.drop_zero] at hr
 refine cast ?_ hr
 congr 1
 have e : putsQ b w.2.2.1 cs = putsC b w.2.2.1 cs := rfl
 dsimp only
 rw [ite_hh2, e]
 cases a with
 | nil => cases putsC b w.2.2.1 cs with
  | nil => rfl
  | cons b0 br => rfl
 | cons a0 ar => cases putsC b w.2.2.1 cs with
  | nil => rfl
  | cons b0 br => rfl)

end Go.Proofs.Ytkanmigbbpppnaa
