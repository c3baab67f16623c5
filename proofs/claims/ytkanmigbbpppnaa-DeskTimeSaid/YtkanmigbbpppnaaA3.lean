/- A part of the proof: contracts of functions. -/
import Derived.Test.YtkanmigbbpppnaaZ2
import Derived.Test.YtkanmigbbpppnaaAbAny

set_option linter.unusedVariables false
set_option linter.unusedSimpArgs false
set_option maxRecDepth 100000
namespace Go.Proofs.Ytkanmigbbpppnaa
open Go Go.Ab
def e0h0 (D : Desk_T) (now : Int) (i : Int) : St := { fr := [(1, .int .i64 now), (2, .ptr 32 0 0 0), (4, .ptr 64 0 0 0), (7, .slc true []), (8, .int .i64 i)], bs := [(32, boxB (Tu.mk Desk_tfs D)), (64, boxB [.slc true [], .slc true []])], df := [] }
noncomputable def e0s0 (D : Desk_T) (now : Int) (i : Int) : Option (St ⊕ (Ex × St)) := stepK Try.prog cfg Rc4 LP0 15 0 (e0h0 D now i)
noncomputable def e0s0_r (D : Desk_T) (now : Int) (i : Int) : Option (St ⊕ Ex × St) :=
 bK (decide (i < (↑(mW D.2.2).length : Int)))
 (oK (elemAt true Wait_tfs (mW D.2.2) i) fun (d0 : Int × Int × Int × Int) =>
 oK (dfreeS.dec [AV.agg [sl D.1.1 D.1.2, sl D.2.1 D.2.2], i6 now, AV.agg [i6 d0.1, i6 d0.2.1, i6 d0.2.2.1, i6 d0.2.2.2]] []) fun (d1 : LW × LW × Int × Int × Int × Int × Int) =>
 bK (!freeQ d1.1.2 d1.2.1.2 d1.2.2.1 d1.2.2.2) (some (.inl (sf [(1, i6 now), (2, pt 32), (4, pt 64), (7, .slc true []), (8, i6 (IntKind.i64.wrap (i + 1)))] [(32, (bx [sl D.1.1 D.1.2, sl D.2.1 D.2.2])), (64, (bx [.slc true [], .slc true []]))])))
 (oK (dlendsS.dec [AV.agg [sl D.1.1 D.1.2, sl D.2.1 D.2.2], i6 now, AV.agg [i6 d0.1, i6 d0.2.1, i6 d0.2.2.1, i6 d0.2.2.2]] []) fun (d2 : LW × LW × Int × Int × Int × Int × Int) => some (.inl (sf [(1, i6 now), (2, pt 32), (4, pt 64), (7, .sref 688 0 0 1), (8, i6 0)] [(32, (bx [sl false (lendL d2.1.2 d2.2.2.1 d2.2.2.2), .slc (dropFw d2.2.1.2 d2.2.2.2.1).isEmpty (mW (dropFw d2.2.1.2 d2.2.2.2.1))])), (64, (bx [.slc true [], .slc true []])), (688, { v := 0, k := .row, fz := false, sz := 4, es := [AV.agg [i6 d0.1, i6 d0.2.1, i6 d0.2.2.1, i6 d0.2.2.2]] })]))))
 (some (.inr (.exit 0, (sf [(1, i6 now), (2, pt 32), (4, pt 64), (7, .slc true [])] [(32, (bx [sl D.1.1 D.1.2, sl D.2.1 D.2.2])), (64, (bx [.slc true [], .slc true []]))]))))
theorem e0s0_w (D : Desk_T) (now : Int) (i : Int) : e0s0 D now i = e0s0_r D now i := by kernel_rfl

def e0h1 (D : Desk_T) (now : Int) (i : Int) (a : List Wait_T) : St := { fr := [(1, .int .i64 now), (2, .ptr 32 0 0 0), (4, .ptr 64 0 0 0), (7, .sref 688 0 0 (a.map (mkV true Wait_tfs)).length), (8, .int .i64 i)], bs := [(32, boxB (Tu.mk Desk_tfs D)), (64, boxB [.slc true [], .slc true []]), (688, { v := 0, k := .row, fz := false, sz := 4, es := a.map (mkV true Wait_tfs) })], df := [] }
noncomputable def e0s1 (D : Desk_T) (now : Int) (i : Int) (a : List Wait_T) : Option (St ⊕ (Ex × St)) := stepK Try.prog cfg Rc4 LP0 15 0 (e0h1 D now i a)
noncomputable def e0s1_r (D : Desk_T) (now : Int) (i : Int) (a : List Wait_T) : Option (St ⊕ Ex × St) :=
 bK (decide (i < (↑(mW D.2.2).length : Int)))
 (oK (elemAt true Wait_tfs (mW D.2.2) i) fun (d0 : Int × Int × Int × Int) =>
 oK (dfreeS.dec [AV.agg [sl D.1.1 D.1.2, sl D.2.1 D.2.2], i6 now, AV.agg [i6 d0.1, i6 d0.2.1, i6 d0.2.2.1, i6 d0.2.2.2]] []) fun (d1 : LW × LW × Int × Int × Int × Int × Int) =>
 bK (!freeQ d1.1.2 d1.2.1.2 d1.2.2.1 d1.2.2.2) (some (.inl (sf [(1, i6 now), (2, pt 32), (4, pt 64), (7, .sref 688 0 0 (mW a).length), (8, i6 (IntKind.i64.wrap (i + 1)))] [(32, (bx [sl D.1.1 D.1.2, sl D.2.1 D.2.2])), (64, (bx [.slc true [], .slc true []])), (688, (rw4 a))])))
 (bK (decide (0 + (mW a).length ≤ (mW a).length))
 (bK (decide (0 = 0 ∧ (mW a).length = (mW a).length) && bytesFit Try.prog 25 ((mW a).length + 1)) (oK (dlendsS.dec [AV.agg [sl D.1.1 D.1.2, sl D.2.1 D.2.2], i6 now, AV.agg [i6 d0.1, i6 d0.2.1, i6 d0.2.2.1, i6 d0.2.2.2]] []) fun (d2 : LW × LW × Int × Int × Int × Int × Int) => some (.inl (sf [(1, i6 now), (2, pt 32), (4, pt 64), (7, .sref 688 0 0 ((mW a).length + 1)), (8, i6 0)] [(32, (bx [sl false (lendL d2.1.2 d2.2.2.1 d2.2.2.2), .slc (dropFw d2.2.1.2 d2.2.2.2.1).isEmpty (mW (dropFw d2.2.1.2 d2.2.2.2.1))])), (64, (bx [.slc true [], .slc true []])), (688, { v := 0, k := .row, fz := false, sz := 4, es := List.take (mW a).length (mW a) ++ [AV.agg [i6 d0.1, i6 d0.2.1, i6 d0.2.2.1, i6 d0.2.2.2]] })])))
 none)
 none))
 (some (.inr (.exit 0, (sf [(1, i6 now), (2, pt 32), (4, pt 64), (7, .sref 688 0 0 (mW a).length)] [(32, (bx [sl D.1.1 D.1.2, sl D.2.1 D.2.2])), (64, (bx [.slc true [], .slc true []])), (688, (rw4 a))]))))
theorem e0s1_w (D : Desk_T) (now : Int) (i : Int) (a : List Wait_T) : e0s1 D now i a = e0s1_r D now i a := by kernel_rfl

def e6h00 (D : Desk_T) (now : Int) (i : Int) (w : Wait_T) (cx : Bool) (cs : List Int) (k : Int) (p : P2_T) (th : Bool) (n : Int) : St := { fr := [(1, .int .i64 now), (2, .ptr 32 0 0 0), (4, .ptr 64 0 0 0), (7, .slc true []), (10, .slc true []), (11, .int .i64 i), (12, .ptr 192 0 0 0), (13, .slc cx (cs.map (mkV false I1_tfs))), (14, .int .i64 k), (15, .ptr 240 0 0 0), (16, .bool th), (17, .int .i64 n)], bs := [(32, boxB (Tu.mk Desk_tfs D)), (64, boxB [.slc true [], .slc true []]), (192, boxB (Tu.mk Wait_tfs w)), (240, boxB (Tu.mk P2_fs p))], df := [] }
noncomputable def e6s00 (D : Desk_T) (now : Int) (i : Int) (w : Wait_T) (cx : Bool) (cs : List Int) (k : Int) (p : P2_T) (th : Bool) (n : Int) : Option (St ⊕ (Ex × St)) := stepK Try.prog cfg Rc4 LP0 15 6 (e6h00 D now i w cx cs k p th n)
noncomputable def e6s00_r (D : Desk_T) (now : Int) (i : Int) (w : Wait_T) (cx : Bool) (cs : List Int) (k : Int) (p : P2_T) (th : Bool) (n : Int) : Option (St ⊕ Ex × St) :=
 bK (decide (n < 0))
 (bK th (some (.inl (sf [(1, i6 now), (2, pt 32), (4, pt 64), (7, .slc true []), (10, .slc true []), (11, i6 i), (12, pt 192), (13, .slc cx (mi cs)), (14, i6 k), (15, pt 240), (16, .bool true), (17, i6 (IntKind.i64.wrap (n + 1)))] [(32, (bx [sl D.1.1 D.1.2, sl D.2.1 D.2.2])), (64, (bx [.slc true [], .slc true []])), (192, (bx [i6 w.1, i6 w.2.1, i6 w.2.2.1, i6 w.2.2.2])), (240, (bx [i6 p.1, i6 p.2]))])))
 (oK (elemAt true [Lf.fi .i64, Lf.fi .i64] [] n) fun (d0 : Int × Int) => some (.inl (sf [(1, i6 now), (2, pt 32), (4, pt 64), (7, .slc true []), (10, .slc true []), (11, i6 i), (12, pt 192), (13, .slc cx (mi cs)), (14, i6 k), (15, pt 240), (16, .bool (decide (d0.1 = p.1) && (decide (d0.2 = p.2) && true))), (17, i6 (IntKind.i64.wrap (n + 1)))] [(32, (bx [sl D.1.1 D.1.2, sl D.2.1 D.2.2])), (64, (bx [.slc true [], .slc true []])), (192, (bx [i6 w.1, i6 w.2.1, i6 w.2.2.1, i6 w.2.2.2])), (240, (bx [i6 p.1, i6 p.2]))]))))
 (some (.inr (.exit 6, (sf [(1, i6 now), (2, pt 32), (4, pt 64), (7, .slc true []), (10, .slc true []), (11, i6 i), (12, pt 192), (13, .slc cx (mi cs)), (14, i6 k), (15, pt 240), (16, .bool th)] [(32, (bx [sl D.1.1 D.1.2, sl D.2.1 D.2.2])), (64, (bx [.slc true [], .slc true []])), (192, (bx [i6 w.1, i6 w.2.1, i6 w.2.2.1, i6 w.2.2.2])), (240, (bx [i6 p.1, i6 p.2]))]))))
theorem e6s00_w (D : Desk_T) (now : Int) (i : Int) (w : Wait_T) (cx : Bool) (cs : List Int) (k : Int) (p : P2_T) (th : Bool) (n : Int) : e6s00 D now i w cx cs k p th n = e6s00_r D now i w cx cs k p th n := by kernel_rfl

def e6h01 (D : Desk_T) (now : Int) (i : Int) (w : Wait_T) (cx : Bool) (cs : List Int) (k : Int) (p : P2_T) (th : Bool) (n : Int) (b : List P2_T) : St := { fr := [(1, .int .i64 now), (2, .ptr 32 0 0 0), (4, .ptr 64 0 0 0), (7, .slc true []), (10, .sref 1648 0 0 (b.map (mkV true P2_fs)).length), (11, .int .i64 i), (12, .ptr 192 0 0 0), (13, .slc cx (cs.map (mkV false I1_tfs))), (14, .int .i64 k), (15, .ptr 240 0 0 0), (16, .bool th), (17, .int .i64 n)], bs := [(32, boxB (Tu.mk Desk_tfs D)), (64, boxB [.slc true [], .slc true []]), (192, boxB (Tu.mk Wait_tfs w)), (240, boxB (Tu.mk P2_fs p)), (1648, { v := 0, k := .row, fz := false, sz := 2, es := b.map (mkV true P2_fs) })], df := [] }
noncomputable def e6s01 (D : Desk_T) (now : Int) (i : Int) (w : Wait_T) (cx : Bool) (cs : List Int) (k : Int) (p : P2_T) (th : Bool) (n : Int) (b : List P2_T) : Option (St ⊕ (Ex × St)) := stepK Try.prog cfg Rc4 LP0 15 6 (e6h01 D now i w cx cs k p th n b)
noncomputable def e6s01_r (D : Desk_T) (now : Int) (i : Int) (w : Wait_T) (cx : Bool) (cs : List Int) (k : Int) (p : P2_T) (th : Bool) (n : Int) (b : List P2_T) : Option (St ⊕ Ex × St) :=
 bK (decide (0 + (m2 b).length ≤ (m2 b).length))
 (bK (decide (n < (↑(m2 b).length : Int)))
 (bK th (some (.inl (sf [(1, i6 now), (2, pt 32), (4, pt 64), (7, .slc true []), (10, .sref 1648 0 0 (m2 b).length), (11, i6 i), (12, pt 192), (13, .slc cx (mi cs)), (14, i6 k), (15, pt 240), (16, .bool true), (17, i6 (IntKind.i64.wrap (n + 1)))] [(32, (bx [sl D.1.1 D.1.2, sl D.2.1 D.2.2])), (64, (bx [.slc true [], .slc true []])), (192, (bx [i6 w.1, i6 w.2.1, i6 w.2.2.1, i6 w.2.2.2])), (240, (bx [i6 p.1, i6 p.2])), (1648, { v := 0, k := .row, fz := false, sz := 2, es := m2 b })])))
 (bK (decide (0 ≤ n ∧ n < (↑(m2 b).length : Int))) (oK (ldRow [Lf.fi .i64, Lf.fi .i64] (m2 b) (0 + n.toNat) 0) fun (d0 : Int × Int) => some (.inl (sf [(1, i6 now), (2, pt 32), (4, pt 64), (7, .slc true []), (10, .sref 1648 0 0 (m2 b).length), (11, i6 i), (12, pt 192), (13, .slc cx (mi cs)), (14, i6 k), (15, pt 240), (16, .bool (decide (d0.1 = p.1) && (decide (d0.2 = p.2) && true))), (17, i6 (IntKind.i64.wrap (n + 1)))] [(32, (bx [sl D.1.1 D.1.2, sl D.2.1 D.2.2])), (64, (bx [.slc true [], .slc true []])), (192, (bx [i6 w.1, i6 w.2.1, i6 w.2.2.1, i6 w.2.2.2])), (240, (bx [i6 p.1, i6 p.2])), (1648, { v := 0, k := .row, fz := false, sz := 2, es := m2 b })]))) none))
 (some (.inr (.exit 6, (sf [(1, i6 now), (2, pt 32), (4, pt 64), (7, .slc true []), (10, .sref 1648 0 0 (m2 b).length), (11, i6 i), (12, pt 192), (13, .slc cx (mi cs)), (14, i6 k), (15, pt 240), (16, .bool th)] [(32, (bx [sl D.1.1 D.1.2, sl D.2.1 D.2.2])), (64, (bx [.slc true [], .slc true []])), (192, (bx [i6 w.1, i6 w.2.1, i6 w.2.2.1, i6 w.2.2.2])), (240, (bx [i6 p.1, i6 p.2])), (1648, { v := 0, k := .row, fz := false, sz := 2, es := m2 b })])))))
 none
theorem e6s01_w (D : Desk_T) (now : Int) (i : Int) (w : Wait_T) (cx : Bool) (cs : List Int) (k : Int) (p : P2_T) (th : Bool) (n : Int) (b : List P2_T) : e6s01 D now i w cx cs k p th n b = e6s01_r D now i w cx cs k p th n b := by kernel_rfl

def e6h10 (D : Desk_T) (now : Int) (i : Int) (w : Wait_T) (cx : Bool) (cs : List Int) (k : Int) (p : P2_T) (th : Bool) (n : Int) (a : List Wait_T) : St := { fr := [(1, .int .i64 now), (2, .ptr 32 0 0 0), (4, .ptr 64 0 0 0), (7, .sref 688 0 0 (a.map (mkV true Wait_tfs)).length), (10, .slc true []), (11, .int .i64 i), (12, .ptr 192 0 0 0), (13, .slc cx (cs.map (mkV false I1_tfs))), (14, .int .i64 k), (15, .ptr 240 0 0 0), (16, .bool th), (17, .int .i64 n)], bs := [(32, boxB (Tu.mk Desk_tfs D)), (64, boxB [.slc true [], .slc true []]), (192, boxB (Tu.mk Wait_tfs w)), (240, boxB (Tu.mk P2_fs p)), (688, { v := 0, k := .row, fz := false, sz := 4, es := a.map (mkV true Wait_tfs) })], df := [] }
noncomputable def e6s10 (D : Desk_T) (now : Int) (i : Int) (w : Wait_T) (cx : Bool) (cs : List Int) (k : Int) (p : P2_T) (th : Bool) (n : Int) (a : List Wait_T) : Option (St ⊕ (Ex × St)) := stepK Try.prog cfg Rc4 LP0 15 6 (e6h10 D now i w cx cs k p th n a)
noncomputable def e6s10_r (D : Desk_T) (now : Int) (i : Int) (w : Wait_T) (cx : Bool) (cs : List Int) (k : Int) (p : P2_T) (th : Bool) (n : Int) (a : List Wait_T) : Option (St ⊕ Ex × St) :=
 bK (decide (n < 0))
 (bK th (some (.inl (sf [(1, i6 now), (2, pt 32), (4, pt 64), (7, .sref 688 0 0 (mW a).length), (10, .slc true []), (11, i6 i), (12, pt 192), (13, .slc cx (mi cs)), (14, i6 k), (15, pt 240), (16, .bool true), (17, i6 (IntKind.i64.wrap (n + 1)))] [(32, (bx [sl D.1.1 D.1.2, sl D.2.1 D.2.2])), (64, (bx [.slc true [], .slc true []])), (192, (bx [i6 w.1, i6 w.2.1, i6 w.2.2.1, i6 w.2.2.2])), (240, (bx [i6 p.1, i6 p.2])), (688, (rw4 a))])))
 (oK (elemAt true [Lf.fi .i64, Lf.fi .i64] [] n) fun (d0 : Int × Int) => some (.inl (sf [(1, i6 now), (2, pt 32), (4, pt 64), (7, .sref 688 0 0 (mW a).length), (10, .slc true []), (11, i6 i), (12, pt 192), (13, .slc cx (mi cs)), (14, i6 k), (15, pt 240), (16, .bool (decide (d0.1 = p.1) && (decide (d0.2 = p.2) && true))), (17, i6 (IntKind.i64.wrap (n + 1)))] [(32, (bx [sl D.1.1 D.1.2, sl D.2.1 D.2.2])), (64, (bx [.slc true [], .slc true []])), (192, (bx [i6 w.1, i6 w.2.1, i6 w.2.2.1, i6 w.2.2.2])), (240, (bx [i6 p.1, i6 p.2])), (688, (rw4 a))]))))
 (some (.inr (.exit 6, (sf [(1, i6 now), (2, pt 32), (4, pt 64), (7, .sref 688 0 0 (mW a).length), (10, .slc true []), (11, i6 i), (12, pt 192), (13, .slc cx (mi cs)), (14, i6 k), (15, pt 240), (16, .bool th)] [(32, (bx [sl D.1.1 D.1.2, sl D.2.1 D.2.2])), (64, (bx [.slc true [], .slc true []])), (192, (bx [i6 w.1, i6 w.2.1, i6 w.2.2.1, i6 w.2.2.2])), (240, (bx [i6 p.1, i6 p.2])), (688, (rw4 a))]))))
theorem e6s10_w (D : Desk_T) (now : Int) (i : Int) (w : Wait_T) (cx : Bool) (cs : List Int) (k : Int) (p : P2_T) (th : Bool) (n : Int) (a : List Wait_T) : e6s10 D now i w cx cs k p th n a = e6s10_r D now i w cx cs k p th n a := by kernel_rfl

def e6h11 (D : Desk_T) (now : Int) (i : Int) (w : Wait_T) (cx : Bool) (cs : List Int) (k : Int) (p : P2_T) (th : Bool) (n : Int) (a : List Wait_T) (b : List P2_T) : St := { fr := [(1, .int .i64 now), (2, .ptr 32 0 0 0), (4, .ptr 64 0 0 0), (7, .sref 688 0 0 (a.map (mkV true Wait_tfs)).length), (10, .sref 1648 0 0 (b.map (mkV true P2_fs)).length), (11, .int .i64 i), (12, .ptr 192 0 0 0), (13, .slc cx (cs.map (mkV false I1_tfs))), (14, .int .i64 k), (15, .ptr 240 0 0 0), (16, .bool th), (17, .int .i64 n)], bs := [(32, boxB (Tu.mk Desk_tfs D)), (64, boxB [.slc true [], .slc true []]), (192, boxB (Tu.mk Wait_tfs w)), (240, boxB (Tu.mk P2_fs p)), (688, { v := 0, k := .row, fz := false, sz := 4, es := a.map (mkV true Wait_tfs) }), (1648, { v := 0, k := .row, fz := false, sz := 2, es := b.map (mkV true P2_fs) })], df := [] }
noncomputable def e6s11 (D : Desk_T) (now : Int) (i : Int) (w : Wait_T) (cx : Bool) (cs : List Int) (k : Int) (p : P2_T) (th : Bool) (n : Int) (a : List Wait_T) (b : List P2_T) : Option (St ⊕ (Ex × St)) := stepK Try.prog cfg Rc4 LP0 15 6 (e6h11 D now i w cx cs k p th n a b)
noncomputable def e6s11_r (D : Desk_T) (now : Int) (i : Int) (w : Wait_T) (cx : Bool) (cs : List Int) (k : Int) (p : P2_T) (th : Bool) (n : Int) (a : List Wait_T) (b : List P2_T) : Option (St ⊕ Ex × St) :=
 bK (decide (0 + (m2 b).length ≤ (m2 b).length))
 (bK (decide (n < (↑(m2 b).length : Int)))
 (bK th (some (.inl (sf [(1, i6 now), (2, pt 32), (4, pt 64), (7, .sref 688 0 0 (mW a).length), (10, .sref 1648 0 0 (m2 b).length), (11, i6 i), (12, pt 192), (13, .slc cx (mi cs)), (14, i6 k), (15, pt 240), (16, .bool true), (17, i6 (IntKind.i64.wrap (n + 1)))] [(32, (bx [sl D.1.1 D.1.2, sl D.2.1 D.2.2])), (64, (bx [.slc true [], .slc true []])), (192, (bx [i6 w.1, i6 w.2.1, i6 w.2.2.1, i6 w.2.2.2])), (240, (bx [i6 p.1, i6 p.2])), (688, (rw4 a)), (1648, { v := 0, k := .row, fz := false, sz := 2, es := m2 b })])))
 (bK (decide (0 ≤ n ∧ n < (↑(m2 b).length : Int)))
 (oK (ldRow [Lf.fi .i64, Lf.fi .i64] (m2 b) (0 + n.toNat) 0) fun (d0 : Int × Int) =>
 some (.inl (sf [(1, i6 now), (2, pt 32), (4, pt 64), (7, .sref 688 0 0 (mW a).length), (10, .sref 1648 0 0 (m2 b).length), (11, i6 i), (12, pt 192), (13, .slc cx (mi cs)), (14, i6 k), (15, pt 240), (16, .bool (decide (d0.1 = p.1) && (decide (d0.2 = p.2) && true))), (17, i6 (IntKind.i64.wrap (n + 1)))] [(32, (bx [sl D.1.1 D.1.2, sl D.2.1 D.2.2])), (64, (bx [.slc true [], .slc true []])), (192, (bx [i6 w.1, i6 w.2.1, i6 w.2.2.1, i6 w.2.2.2])), (240, (bx [i6 p.1, i6 p.2])), (688, (rw4 a)), (1648, { v := 0, k := .row, fz := false, sz := 2, es := m2 b })])))
 none))
 (some (.inr (.exit 6, (sf [(1, i6 now), (2, pt 32), (4, pt 64), (7, .sref 688 0 0 (mW a).length), (10, .sref 1648 0 0 (m2 b).length), (11, i6 i), (12, pt 192), (13, .slc cx (mi cs)), (14, i6 k), (15, pt 240), (16, .bool th)] [(32, (bx [sl D.1.1 D.1.2, sl D.2.1 D.2.2])), (64, (bx [.slc true [], .slc true []])), (192, (bx [i6 w.1, i6 w.2.1, i6 w.2.2.1, i6 w.2.2.2])), (240, (bx [i6 p.1, i6 p.2])), (688, (rw4 a)), (1648, { v := 0, k := .row, fz := false, sz := 2, es := m2 b })])))))
 none
theorem e6s11_w (D : Desk_T) (now : Int) (i : Int) (w : Wait_T) (cx : Bool) (cs : List Int) (k : Int) (p : P2_T) (th : Bool) (n : Int) (a : List Wait_T) (b : List P2_T) : e6s11 D now i w cx cs k p th n a b = e6s11_r D now i w cx cs k p th n a b := by kernel_rfl

def uV : List Wait_T → AV
 | [] => .slc true []
 | x :: r => .sref 688 0 0 ((x :: r).map (mkV true Wait_tfs)).length
def uB : List Wait_T → List (Nat × Blk)
 | [] => []
 | x :: r => [(688, { v := 0, k := .row, fz := false, sz := 4, es := (x :: r).map (mkV true Wait_tfs) })]
def vV : List P2_T → AV
 | [] => .slc true []
 | x :: r => .sref 1648 0 0 ((x :: r).map (mkV true P2_fs)).length
def vB : List P2_T → List (Nat × Blk)
 | [] => []
 | x :: r => [(1648, { v := 0, k := .row, fz := false, sz := 2, es := (x :: r).map (mkV true P2_fs) })]
theorem vV_put {b : List P2_T} (h : b ≠ []) (p : P2_T) : vV (b ++ [p]) = .sref 1648 0 0 ((b.map (mkV true P2_fs)).length + 1) ∧ vB (b ++ [p]) = [(1648, { v := 0, k := .row, fz := false, sz := 2, es := List.take (b.map (mkV true P2_fs)).length (b.map (mkV true P2_fs)) ++ [mkV true P2_fs p] })] := by
 cases b with
 | nil => exact absurd rfl h
 | cons x r =>
  constructor
  ·show AV.sref 1648 0 0 (((x :: r) ++ [p]).map (mkV true P2_fs)).length = _
   rw [List.map_append, List.length_append]; rfl
  ·show ([(1648, { v := 0, k := BK.row, fz := false, sz := 2, es := ((x :: r) ++ [p]).map (mkV true P2_fs) })] : List (Nat × Blk)) = _
   rw [List.map_append, List.take_length]; rfl
theorem uV_put {a : List Wait_T} (h : a ≠ []) (p : Wait_T) : uV (a ++ [p]) = .sref 688 0 0 ((a.map (mkV true Wait_tfs)).length + 1) ∧ uB (a ++ [p]) = [(688, { v := 0, k := .row, fz := false, sz := 4, es := List.take (a.map (mkV true Wait_tfs)).length (a.map (mkV true Wait_tfs)) ++ [mkV true Wait_tfs p] })] := by
 cases a with
 | nil => exact absurd rfl h
 | cons x r =>
  constructor
  ·show AV.sref 688 0 0 (((x :: r) ++ [p]).map (mkV true Wait_tfs)).length = _
   rw [List.map_append, List.length_append]; rfl
  ·show ([(688, { v := 0, k := BK.row, fz := false, sz := 4, es := ((x :: r) ++ [p]).map (mkV true Wait_tfs) })] : List (Nat × Blk)) = _
   rw [List.map_append, List.take_length]; rfl
theorem uB_inj {a a' : List Wait_T} {b b' : List P2_T} (h : uB a ++ vB b = uB a' ++ vB b') : a = a' ∧ b = b' := by
 cases a <;> cases a' <;> cases b <;> cases b' <;> simp only [uB, vB, List.nil_append, List.cons_append, List.cons.injEq, Prod.mk.injEq, Blk.mk.injEq, and_true, true_and, List.append_nil, reduceCtorEq, and_false, false_and, Nat.reduceEqDiff] at h
 all_goals first
  | exact ⟨rfl, rfl⟩
  | exact ⟨map_inj (fs := Wait_tfs) rfl h.1, map_inj (fs := P2_fs) rfl h.2⟩
  | exact ⟨map_inj (fs := Wait_tfs) rfl h, rfl⟩
  | exact ⟨rfl, map_inj (fs := P2_fs) rfl h⟩
theorem ldP (l : List P2_T) (i : Nat) (h : i < l.length) : ldRow [Lf.fi .i64, Lf.fi .i64] (l.map (mkV true P2_fs)) i 0 = some l[i] := by
 simp [ldRow, h, ldCells, mkV, mkA, AV.cells, Tu.mk, Lf.mk, Tu.dec, Lf.dec]
theorem eqP2 (x p : P2_T) : (decide (x.1 = p.1) && (decide (x.2 = p.2) && true)) = decide (x = p) := by
 obtain ⟨x1, x2⟩ := x
 obtain ⟨p1, p2⟩ := p
 by_cases h1 : x1 = p1 <;> by_cases h2 : x2 = p2 <;> simp [h1, h2]
def hh6 (D : Desk_T) (now : Int) (i : Int) (w : Wait_T) (cx : Bool) (cs : List Int) (k : Int) (p : P2_T) (th : Bool) (n : Int) (a : List Wait_T) (b : List P2_T) : St := { fr := [(1, .int .i64 now), (2, .ptr 32 0 0 0), (4, .ptr 64 0 0 0), (7, uV a), (10, vV b), (11, .int .i64 i), (12, .ptr 192 0 0 0), (13, .slc cx (cs.map (mkV false I1_tfs))), (14, .int .i64 k), (15, .ptr 240 0 0 0), (16, .bool th), (17, .int .i64 n)], bs := (32, boxB (Tu.mk Desk_tfs D)) :: (64, boxB [.slc true [], .slc true []]) :: (192, boxB (Tu.mk Wait_tfs w)) :: (240, boxB (Tu.mk P2_fs p)) :: (uB a ++ vB b), df := [] }
def hh6x (D : Desk_T) (now : Int) (i : Int) (w : Wait_T) (cx : Bool) (cs : List Int) (k : Int) (p : P2_T) (th : Bool) (a : List Wait_T) (b : List P2_T) : St := { fr := [(1, .int .i64 now), (2, .ptr 32 0 0 0), (4, .ptr 64 0 0 0), (7, uV a), (10, vV b), (11, .int .i64 i), (12, .ptr 192 0 0 0), (13, .slc cx (cs.map (mkV false I1_tfs))), (14, .int .i64 k), (15, .ptr 240 0 0 0), (16, .bool th)], bs := (32, boxB (Tu.mk Desk_tfs D)) :: (64, boxB [.slc true [], .slc true []]) :: (192, boxB (Tu.mk Wait_tfs w)) :: (240, boxB (Tu.mk P2_fs p)) :: (uB a ++ vB b), df := [] }
theorem e6_e (D : Desk_T) (now : Int) (i : Int) (w : Wait_T) (cx : Bool) (cs : List Int) (k : Int) (p : P2_T) (th : Bool) (n : Nat) (a : List Wait_T) (b : List P2_T) (hn : n < b.length) (hb : b.length ≤ 10000) : stepK Try.prog cfg Rc4 LP0 15 6 (hh6 D now i w cx cs k p th n a b) = some (.inl (hh6 D now i w cx cs k p (th || decide (b[n] = p)) ((n + 1 : Nat) : Int) a b)) := by
 have e1 : IntKind.i64.wrap ((n : Int) + 1) = ((n + 1 : Nat) : Int) := by rw [w64 (by omega) (by omega)]; omega
 have hl := ldP b n hn
 cases b with
 | nil => exact absurd hn (Nat.not_lt_zero _)
 | cons b0 br =>
  have hq := eqP2 (b0 :: br)[n] p
  generalize (b0 :: br)[n] = q at hl hq
  rw [← hq]
  cases a with
  | nil =>
   refine (e6s01_w D now i w cx cs k p th n (b0 :: br)).trans ?_
   unfold e6s01_r
   rw [e1]
   refine bK_tq (Q := (· = _)) (by simp) (bK_tq (Q := (· = _)) (by rw [List.length_map]; exact decide_eq_true (by omega)) ?_)
   cases th with
   | true => exact bK_tq (Q := (· = _)) rfl rfl
   | false =>
    refine bK_fq (Q := (· = _)) rfl (bK_tq (Q := (· = _)) (by rw [List.length_map]; exact decide_eq_true (by omega)) ?_)
    refine oK_q (Q := (· = _)) (by rw [Nat.zero_add, Int.toNat_natCast]; exact hl) rfl
  | cons a0 ar =>
   refine (e6s11_w D now i w cx cs k p th n (a0 :: ar) (b0 :: br)).trans ?_
   unfold e6s11_r
   rw [e1]
   refine bK_tq (Q := (· = _)) (by simp) (bK_tq (Q := (· = _)) (by rw [List.length_map]; exact decide_eq_true (by omega)) ?_)
   cases th with
   | true => exact bK_tq (Q := (· = _)) rfl rfl
   | false =>
    refine bK_fq (Q := (· = _)) rfl (bK_tq (Q := (· = _)) (by rw [List.length_map]; exact decide_eq_true (by omega)) ?_)
    refine oK_q (Q := (· = _)) (by rw [Nat.zero_add, Int.toNat_natCast]; exact hl) rfl
theorem e6_x (D : Desk_T) (now : Int) (i : Int) (w : Wait_T) (cx : Bool) (cs : List Int) (k : Int) (p : P2_T) (th : Bool) (n : Int) (a : List Wait_T) (b : List P2_T) (hn : n = (b.length : Int)) : stepK Try.prog cfg Rc4 LP0 15 6 (hh6 D now i w cx cs k p th n a b) = some (.inr (.exit 6, hh6x D now i w cx cs k p th a b)) := by
 cases a with
 | nil =>
  cases b with
  | nil =>
   refine (e6s00_w D now i w cx cs k p th n).trans ?_
   unfold e6s00_r
   exact bK_fq (Q := (· = _)) (decide_eq_false (by rw [hn]; simp)) rfl
  | cons b0 br =>
   refine (e6s01_w D now i w cx cs k p th n (b0 :: br)).trans ?_
   unfold e6s01_r
   exact bK_tq (Q := (· = _)) (by simp) (bK_fq (Q := (· = _)) (decide_eq_false (by rw [hn, List.length_map]; omega)) rfl)
 | cons a0 ar =>
  cases b with
  | nil =>
   refine (e6s10_w D now i w cx cs k p th n (a0 :: ar)).trans ?_
   unfold e6s10_r
   exact bK_fq (Q := (· = _)) (decide_eq_false (by rw [hn]; simp)) rfl
  | cons b0 br =>
   refine (e6s11_w D now i w cx cs k p th n (a0 :: ar) (b0 :: br)).trans ?_
   unfold e6s11_r
   exact bK_tq (Q := (· = _)) (by simp) (bK_fq (Q := (· = _)) (decide_eq_false (by rw [hn, List.length_map]; omega)) rfl)
theorem el15 : (loopsOf 0 (codeOf Try.prog 15)).map (·.1) = [0, 2, 4, 6] := by kernel_rfl
theorem eo15 : OneLoops Try.prog 15 := by unfold OneLoops; rw [el15]; decide
theorem ea150 : At 0 (codeOf Try.prog 15) 0 (.loop (bodyAt Try.prog 15 0)) := at_body eo15 (by rw [el15]; decide)
theorem ea152 : At 0 (codeOf Try.prog 15) 2 (.loop (bodyAt Try.prog 15 2)) := at_body eo15 (by rw [el15]; decide)
theorem ea154 : At 0 (codeOf Try.prog 15) 4 (.loop (bodyAt Try.prog 15 4)) := at_body eo15 (by rw [el15]; decide)
theorem ea156 : At 0 (codeOf Try.prog 15) 6 (.loop (bodyAt Try.prog 15 6)) := at_body eo15 (by rw [el15]; decide)
theorem e6_run (D : Desk_T) (now : Int) (i : Int) (w : Wait_T) (cx : Bool) (cs : List Int) (k : Int) (p : P2_T) (a : List Wait_T) (b : List P2_T) (hb : b.length ≤ 10000) : ∀ (j n : Nat), n + j = b.length → ∀ (th : Bool) (fu : Nat), j < fu → Runs' Try.prog cfg Rc4 15 6 fu (hh6 D now i w cx cs k p th n a b) (.exit 6, hh6x D now i w cx cs k p (th || (b.drop n).any (fun x => decide (x = p))) a b)
 | 0, n, hn, th, fu + 1, hf => by
  rw [List.drop_of_length_le (by omega), List.any_nil, Bool.or_false]
  exact Runs'.done (lp := LP0) LPok.none ea156 (e6_x D now i w cx cs k p th n a b (by omega))
 | j + 1, n, hn, th, fu + 1, hf => by
  have hn' : n < b.length := by omega
  have hr := e6_run D now i w cx cs k p a b hb j (n + 1) (by omega) (th || decide (b[n] = p)) fu (by omega)
  rw [List.drop_eq_getElem_cons hn', List.any_cons, ← Bool.or_assoc]
  exact Runs'.step (lp := LP0) LPok.none ea156 (e6_e D now i w cx cs k p th n a b hn' hb) hr
abbrev E6D : Type := (Desk_T × Int) × (Int × Wait_T) × ((Bool × List Int) × Int) × P2_T × List Wait_T × List P2_T
def e6Hd (d : E6D) : St := hh6 d.1.1 d.1.2 d.2.1.1 d.2.1.2 d.2.2.1.1.1 d.2.2.1.1.2 d.2.2.1.2 d.2.2.2.1 false 0 d.2.2.2.2.1 d.2.2.2.2.2
theorem e6Hd_inj (d d' : E6D) (h : e6Hd d = e6Hd d') : d = d' := by
 obtain ⟨⟨D, now⟩, ⟨i, w⟩, ⟨⟨cx, cs⟩, k⟩, p, a, b⟩ := d
 obtain ⟨⟨D', now'⟩, ⟨i', w'⟩, ⟨⟨cx', cs'⟩, k'⟩, p', a', b'⟩ := d'
 simp only [e6Hd, hh6, boxB, St.mk.injEq, List.cons.injEq, Prod.mk.injEq, AV.slc.injEq, AV.int.injEq, Blk.mk.injEq, and_true, true_and] at h
 obtain ⟨⟨h1, _, _, h2, ⟨h3, h4⟩, h5⟩, h6, h7, h8, h9⟩ := h
 obtain ⟨h10, h11⟩ := uB_inj h9
 rw [h1, h2, h3, map_inj (agg := false) (fs := I1_tfs) rfl h4, h5, mk_inj (fs := Desk_tfs) rfl h6, mk_inj (fs := Wait_tfs) rfl h7, mk_inj (fs := P2_fs) rfl h8, h10, h11]
def thQ (b : List P2_T) (p : P2_T) : Bool := b.any (fun x => decide (x = p))
noncomputable def e6L : LP := LP.of e6Hd (fun d => d.2.2.2.2.2.length ≤ 10000) fun d => .ite (noW d.2.2.2.2.1) (.ite (noP (d.2.2.2.2.2)) (.leaf (.exit 6, { fr := [(1, .int .i64 d.1.2), (2, .ptr 32 0 0 0), (4, .ptr 64 0 0 0), (7, .slc true []), (10, .slc true []), (11, .int .i64 d.2.1.1), (12, .ptr 192 0 0 0), (13, .slc d.2.2.1.1.1 (d.2.2.1.1.2.map (mkV false I1_tfs))), (14, .int .i64 d.2.2.1.2), (15, .ptr 240 0 0 0), (16, .bool (thQ d.2.2.2.2.2 d.2.2.2.1))], bs := [(32, boxB (Tu.mk Desk_tfs d.1.1)), (64, boxB [.slc true [], .slc true []]), (192, boxB (Tu.mk Wait_tfs d.2.1.2)), (240, boxB (Tu.mk P2_fs d.2.2.2.1))], df := [] })) (.leaf (.exit 6, { fr := [(1, .int .i64 d.1.2), (2, .ptr 32 0 0 0), (4, .ptr 64 0 0 0), (7, .slc true []), (10, .sref 1648 0 0 ((d.2.2.2.2.2).map (mkV true P2_fs)).length), (11, .int .i64 d.2.1.1), (12, .ptr 192 0 0 0), (13, .slc d.2.2.1.1.1 (d.2.2.1.1.2.map (mkV false I1_tfs))), (14, .int .i64 d.2.2.1.2), (15, .ptr 240 0 0 0), (16, .bool (thQ d.2.2.2.2.2 d.2.2.2.1))], bs := [(32, boxB (Tu.mk Desk_tfs d.1.1)), (64, boxB [.slc true [], .slc true []]), (192, boxB (Tu.mk Wait_tfs d.2.1.2)), (240, boxB (Tu.mk P2_fs d.2.2.2.1)), (1648, { v := 0, k := .row, fz := false, sz := 2, es := (d.2.2.2.2.2).map (mkV true P2_fs) })], df := [] }))) (.ite (noP (d.2.2.2.2.2)) (.leaf (.exit 6, { fr := [(1, .int .i64 d.1.2), (2, .ptr 32 0 0 0), (4, .ptr 64 0 0 0), (7, .sref 688 0 0 (d.2.2.2.2.1.map (mkV true Wait_tfs)).length), (10, .slc true []), (11, .int .i64 d.2.1.1), (12, .ptr 192 0 0 0), (13, .slc d.2.2.1.1.1 (d.2.2.1.1.2.map (mkV false I1_tfs))), (14, .int .i64 d.2.2.1.2), (15, .ptr 240 0 0 0), (16, .bool (thQ d.2.2.2.2.2 d.2.2.2.1))], bs := [(32, boxB (Tu.mk Desk_tfs d.1.1)), (64, boxB [.slc true [], .slc true []]), (192, boxB (Tu.mk Wait_tfs d.2.1.2)), (240, boxB (Tu.mk P2_fs d.2.2.2.1)), (688, { v := 0, k := .row, fz := false, sz := 4, es := d.2.2.2.2.1.map (mkV true Wait_tfs) })], df := [] })) (.leaf (.exit 6, { fr := [(1, .int .i64 d.1.2), (2, .ptr 32 0 0 0), (4, .ptr 64 0 0 0), (7, .sref 688 0 0 (d.2.2.2.2.1.map (mkV true Wait_tfs)).length), (10, .sref 1648 0 0 ((d.2.2.2.2.2).map (mkV true P2_fs)).length), (11, .int .i64 d.2.1.1), (12, .ptr 192 0 0 0), (13, .slc d.2.2.1.1.1 (d.2.2.1.1.2.map (mkV false I1_tfs))), (14, .int .i64 d.2.2.1.2), (15, .ptr 240 0 0 0), (16, .bool (thQ d.2.2.2.2.2 d.2.2.2.1))], bs := [(32, boxB (Tu.mk Desk_tfs d.1.1)), (64, boxB [.slc true [], .slc true []]), (192, boxB (Tu.mk Wait_tfs d.2.1.2)), (240, boxB (Tu.mk P2_fs d.2.2.2.1)), (688, { v := 0, k := .row, fz := false, sz := 4, es := d.2.2.2.2.1.map (mkV true Wait_tfs) }), (1648, { v := 0, k := .row, fz := false, sz := 2, es := (d.2.2.2.2.2).map (mkV true P2_fs) })], df := [] })))
noncomputable def e6P : LPs := LPs.add LP0 15 6 e6L
theorem e6P_ok : LPok Try.prog cfg Rc4 e6P 15 := LPok.addH LPok.none eo15 (by
 rintro ⟨⟨D, now⟩, ⟨i, w⟩, ⟨⟨cx, cs⟩, k⟩, p, a, b⟩ h1
 simp only at h1
 have hr := e6_run D now i w cx cs k p a b h1 b.length 0 (by omega) false rounds (by simp only [rounds]; omega)
 rw [List.drop_zero] at hr
 refine cast ?_ hr
 congr 1
 dsimp only
 rw [ite_hh2]
 cases a with
 | nil => cases b with
  | nil => rfl
  | cons b0 br => rfl
 | cons a0 ar => cases b with
  | nil => rfl
  | cons b0 br => rfl)

end Go.Proofs.Ytkanmigbbpppnaa
