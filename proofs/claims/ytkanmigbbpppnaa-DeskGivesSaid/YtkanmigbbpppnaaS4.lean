/- A part of the proof: contracts of functions. -/
import Derived.Test.YtkanmigbbpppnaaP4
import Derived.Test.YtkanmigbbpppnaaAbAny
set_option linter.unusedVariables false
set_option linter.unusedSimpArgs false
set_option maxRecDepth 100000
namespace Go.Proofs.Ytkanmigbbpppnaa
open Go Go.Ab
def g8h00 (fx : Bool) (fi : List Wait_T) (s : List Wait_T) (f : Int) (i : Int) : St := { fr := [(5, .slc fx (fi.map (mkV true Wait_tfs))), (6, .sref 896 0 0 (s.map (mkV true Wait_tfs)).length), (13, .int .i64 f), (14, .slc true []), (15, .slc true []), (16, .int .i64 i)], bs := [(896, { v := 0, k := .row, fz := false, sz := 4, es := s.map (mkV true Wait_tfs) })], df := [] }
noncomputable def g8_s00 (fx : Bool) (fi : List Wait_T) (s : List Wait_T) (f : Int) (i : Int) : Option (St ⊕ (Ex × St)) := stepK Try.prog cfg Gv3 LP0 8 8 (g8h00 fx fi s f i)
noncomputable def g8_s00_r (fx : Bool) (fi : List Wait_T) (s : List Wait_T) (f : Int) (i : Int) : Option (St ⊕ Ex × St) :=
 bK (decide (i < (↑(mW fi).length : Int)))
 (oK (elemAt true Wait_tfs (mW fi) i) fun (d0 : Int × Int × Int × Int) =>
 bK (decide (d0.2.2.1 = f))
 (oK (elemAt true Wait_tfs (mW fi) i) fun (d1 : Int × Int × Int × Int) =>
 bK (decide (0 ≤ i ∧ i < (↑(mW s).length : Int)))
 (bK (decide (0 + i.toNat < (mW s).length))
 (oK (ldRow I1_tfs (mW s) (0 + i.toNat) 2) fun (d2 : Int) =>
 bK (decide (d2 = f)) (bK (decide (0 ≤ i ∧ i < (↑(mW s).length : Int))) (oK (ldRow Wait_tfs (mW s) (0 + i.toNat) 0) fun (d3 : Int × Int × Int × Int) => some (.inl (sf [(5, sl fx fi), (6, .sref 896 0 0 (mW s).length), (13, i6 f), (14, .sref 1456 0 0 1), (15, .sref 1680 0 0 1), (16, i6 (IntKind.i64.wrap (i + 1)))] [(896, (rw4 s)), (1456, { v := 0, k := .row, fz := false, sz := 4, es := [AV.agg [i6 d1.1, i6 d1.2.1, i6 d1.2.2.1, i6 d1.2.2.2]] }), (1680, { v := 0, k := .row, fz := false, sz := 4, es := [AV.agg [i6 d3.1, i6 d3.2.1, i6 d3.2.2.1, i6 d3.2.2.2]] })]))) none)
 (some (.inl (sf [(5, sl fx fi), (6, .sref 896 0 0 (mW s).length), (13, i6 f), (14, .sref 1456 0 0 1), (15, .slc true []), (16, i6 (IntKind.i64.wrap (i + 1)))] [(896, (rw4 s)), (1456, { v := 0, k := .row, fz := false, sz := 4, es := [AV.agg [i6 d1.1, i6 d1.2.1, i6 d1.2.2.1, i6 d1.2.2.2]] })]))))
 none)
 none)
 (bK (decide (0 ≤ i ∧ i < (↑(mW s).length : Int))) (bK (decide (0 + i.toNat < (mW s).length)) (oK (ldRow I1_tfs (mW s) (0 + i.toNat) 2) fun (d4 : Int) => bK (decide (d4 = f)) (bK (decide (0 ≤ i ∧ i < (↑(mW s).length : Int))) (oK (ldRow Wait_tfs (mW s) (0 + i.toNat) 0) fun (d5 : Int × Int × Int × Int) => some (.inl (sf [(5, sl fx fi), (6, .sref 896 0 0 (mW s).length), (13, i6 f), (14, .slc true []), (15, .sref 1680 0 0 1), (16, i6 (IntKind.i64.wrap (i + 1)))] [(896, (rw4 s)), (1680, { v := 0, k := .row, fz := false, sz := 4, es := [AV.agg [i6 d5.1, i6 d5.2.1, i6 d5.2.2.1, i6 d5.2.2.2]] })]))) none) (some (.inl (sf [(5, sl fx fi), (6, .sref 896 0 0 (mW s).length), (13, i6 f), (14, .slc true []), (15, .slc true []), (16, i6 (IntKind.i64.wrap (i + 1)))] [(896, (rw4 s))])))) none) none))
 (some (.inr (.exit 8, (sf [(5, sl fx fi), (6, .sref 896 0 0 (mW s).length), (13, i6 f), (14, .slc true []), (15, .slc true [])] [(896, (rw4 s))]))))
theorem g8_s00_w (fx : Bool) (fi : List Wait_T) (s : List Wait_T) (f : Int) (i : Int) : g8_s00 fx fi s f i = g8_s00_r fx fi s f i := by kernel_rfl
def g8x00 (fx : Bool) (fi : List Wait_T) (s : List Wait_T) (f : Int) : St := { fr := [(5, .slc fx (fi.map (mkV true Wait_tfs))), (6, .sref 896 0 0 (s.map (mkV true Wait_tfs)).length), (13, .int .i64 f), (14, .slc true []), (15, .slc true [])], bs := [(896, { v := 0, k := .row, fz := false, sz := 4, es := s.map (mkV true Wait_tfs) })], df := [] }
def g8h01 (fx : Bool) (fi : List Wait_T) (s : List Wait_T) (f : Int) (b : List Wait_T) (i : Int) : St := { fr := [(5, .slc fx (fi.map (mkV true Wait_tfs))), (6, .sref 896 0 0 (s.map (mkV true Wait_tfs)).length), (13, .int .i64 f), (14, .slc true []), (15, .sref 1680 0 0 (b.map (mkV true Wait_tfs)).length), (16, .int .i64 i)], bs := [(896, { v := 0, k := .row, fz := false, sz := 4, es := s.map (mkV true Wait_tfs) }), (1680, { v := 0, k := .row, fz := false, sz := 4, es := b.map (mkV true Wait_tfs) })], df := [] }
noncomputable def g8_s01 (fx : Bool) (fi : List Wait_T) (s : List Wait_T) (f : Int) (b : List Wait_T) (i : Int) : Option (St ⊕ (Ex × St)) := stepK Try.prog cfg Gv3 LP0 8 8 (g8h01 fx fi s f b i)
noncomputable def g8_s01_r (fx : Bool) (fi : List Wait_T) (s : List Wait_T) (f : Int) (b : List Wait_T) (i : Int) : Option (St ⊕ Ex × St) :=
 bK (decide (i < (↑(mW fi).length : Int)))
 (oK (elemAt true Wait_tfs (mW fi) i) fun (d0 : Int × Int × Int × Int) =>
 bK (decide (d0.2.2.1 = f))
 (oK (elemAt true Wait_tfs (mW fi) i) fun (d1 : Int × Int × Int × Int) =>
 bK (decide (0 ≤ i ∧ i < (↑(mW s).length : Int)))
 (bK (decide (0 + i.toNat < (mW s).length))
 (oK (ldRow I1_tfs (mW s) (0 + i.toNat) 2) fun (d2 : Int) =>
 bK (decide (d2 = f)) (bK (decide (0 ≤ i ∧ i < (↑(mW s).length : Int))) (oK (ldRow Wait_tfs (mW s) (0 + i.toNat) 0) fun (d3 : Int × Int × Int × Int) => bK (decide (0 + (mW b).length ≤ (mW b).length)) (bK (decide (0 = 0 ∧ (mW b).length = (mW b).length) && bytesFit Try.prog 25 ((mW b).length + 1)) (some (.inl (sf [(5, sl fx fi), (6, .sref 896 0 0 (mW s).length), (13, i6 f), (14, .sref 1456 0 0 1), (15, .sref 1680 0 0 ((mW b).length + 1)), (16, i6 (IntKind.i64.wrap (i + 1)))] [(896, (rw4 s)), (1456, { v := 0, k := .row, fz := false, sz := 4, es := [AV.agg [i6 d1.1, i6 d1.2.1, i6 d1.2.2.1, i6 d1.2.2.2]] }), (1680, { v := 0, k := .row, fz := false, sz := 4, es := List.take (mW b).length (mW b) ++ [AV.agg [i6 d3.1, i6 d3.2.1, i6 d3.2.2.1, i6 d3.2.2.2]] })]))) none) none) none)
 (some (.inl (sf [(5, sl fx fi), (6, .sref 896 0 0 (mW s).length), (13, i6 f), (14, .sref 1456 0 0 1), (15, .sref 1680 0 0 (mW b).length), (16, i6 (IntKind.i64.wrap (i + 1)))] [(896, (rw4 s)), (1456, { v := 0, k := .row, fz := false, sz := 4, es := [AV.agg [i6 d1.1, i6 d1.2.1, i6 d1.2.2.1, i6 d1.2.2.2]] }), (1680, (rw4 b))]))))
 none)
 none)
 (bK (decide (0 ≤ i ∧ i < (↑(mW s).length : Int)))
 (bK (decide (0 + i.toNat < (mW s).length))
 (oK (ldRow I1_tfs (mW s) (0 + i.toNat) 2) fun (d4 : Int) =>
 bK (decide (d4 = f)) (bK (decide (0 ≤ i ∧ i < (↑(mW s).length : Int))) (oK (ldRow Wait_tfs (mW s) (0 + i.toNat) 0) fun (d5 : Int × Int × Int × Int) => bK (decide (0 + (mW b).length ≤ (mW b).length)) (bK (decide (0 = 0 ∧ (mW b).length = (mW b).length) && bytesFit Try.prog 25 ((mW b).length + 1)) (some (.inl (sf [(5, sl fx fi), (6, .sref 896 0 0 (mW s).length), (13, i6 f), (14, .slc true []), (15, .sref 1680 0 0 ((mW b).length + 1)), (16, i6 (IntKind.i64.wrap (i + 1)))] [(896, (rw4 s)), (1680, { v := 0, k := .row, fz := false, sz := 4, es := List.take (mW b).length (mW b) ++ [AV.agg [i6 d5.1, i6 d5.2.1, i6 d5.2.2.1, i6 d5.2.2.2]] })]))) none) none) none)
 (some (.inl (sf [(5, sl fx fi), (6, .sref 896 0 0 (mW s).length), (13, i6 f), (14, .slc true []), (15, .sref 1680 0 0 (mW b).length), (16, i6 (IntKind.i64.wrap (i + 1)))] [(896, (rw4 s)), (1680, (rw4 b))]))))
 none)
 none))
 (some (.inr (.exit 8, (sf [(5, sl fx fi), (6, .sref 896 0 0 (mW s).length), (13, i6 f), (14, .slc true []), (15, .sref 1680 0 0 (mW b).length)] [(896, (rw4 s)), (1680, (rw4 b))]))))
theorem g8_s01_w (fx : Bool) (fi : List Wait_T) (s : List Wait_T) (f : Int) (b : List Wait_T) (i : Int) : g8_s01 fx fi s f b i = g8_s01_r fx fi s f b i := by kernel_rfl
def g8x01 (fx : Bool) (fi : List Wait_T) (s : List Wait_T) (f : Int) (b : List Wait_T) : St := { fr := [(5, .slc fx (fi.map (mkV true Wait_tfs))), (6, .sref 896 0 0 (s.map (mkV true Wait_tfs)).length), (13, .int .i64 f), (14, .slc true []), (15, .sref 1680 0 0 (b.map (mkV true Wait_tfs)).length)], bs := [(896, { v := 0, k := .row, fz := false, sz := 4, es := s.map (mkV true Wait_tfs) }), (1680, { v := 0, k := .row, fz := false, sz := 4, es := b.map (mkV true Wait_tfs) })], df := [] }
def g8h10 (fx : Bool) (fi : List Wait_T) (s : List Wait_T) (f : Int) (a : List Wait_T) (i : Int) : St := { fr := [(5, .slc fx (fi.map (mkV true Wait_tfs))), (6, .sref 896 0 0 (s.map (mkV true Wait_tfs)).length), (13, .int .i64 f), (14, .sref 1456 0 0 (a.map (mkV true Wait_tfs)).length), (15, .slc true []), (16, .int .i64 i)], bs := [(896, { v := 0, k := .row, fz := false, sz := 4, es := s.map (mkV true Wait_tfs) }), (1456, { v := 0, k := .row, fz := false, sz := 4, es := a.map (mkV true Wait_tfs) })], df := [] }
noncomputable def g8_s10 (fx : Bool) (fi : List Wait_T) (s : List Wait_T) (f : Int) (a : List Wait_T) (i : Int) : Option (St ⊕ (Ex × St)) := stepK Try.prog cfg Gv3 LP0 8 8 (g8h10 fx fi s f a i)
noncomputable def g8_s10_r (fx : Bool) (fi : List Wait_T) (s : List Wait_T) (f : Int) (a : List Wait_T) (i : Int) : Option (St ⊕ Ex × St) :=
 bK (decide (i < (↑(mW fi).length : Int)))
 (oK (elemAt true Wait_tfs (mW fi) i) fun (d0 : Int × Int × Int × Int) =>
 bK (decide (d0.2.2.1 = f))
 (oK (elemAt true Wait_tfs (mW fi) i) fun (d1 : Int × Int × Int × Int) =>
 bK (decide (0 + (mW a).length ≤ (mW a).length))
 (bK (decide (0 = 0 ∧ (mW a).length = (mW a).length) && bytesFit Try.prog 25 ((mW a).length + 1))
 (bK (decide (0 ≤ i ∧ i < (↑(mW s).length : Int)))
 (bK (decide (0 + i.toNat < (mW s).length))
 (oK (ldRow I1_tfs (mW s) (0 + i.toNat) 2) fun (d2 : Int) =>
 bK (decide (d2 = f)) (bK (decide (0 ≤ i ∧ i < (↑(mW s).length : Int))) (oK (ldRow Wait_tfs (mW s) (0 + i.toNat) 0) fun (d3 : Int × Int × Int × Int) => some (.inl (sf [(5, sl fx fi), (6, .sref 896 0 0 (mW s).length), (13, i6 f), (14, .sref 1456 0 0 ((mW a).length + 1)), (15, .sref 1680 0 0 1), (16, i6 (IntKind.i64.wrap (i + 1)))] [(896, (rw4 s)), (1456, { v := 0, k := .row, fz := false, sz := 4, es := List.take (mW a).length (mW a) ++ [AV.agg [i6 d1.1, i6 d1.2.1, i6 d1.2.2.1, i6 d1.2.2.2]] }), (1680, { v := 0, k := .row, fz := false, sz := 4, es := [AV.agg [i6 d3.1, i6 d3.2.1, i6 d3.2.2.1, i6 d3.2.2.2]] })]))) none)
 (some (.inl (sf [(5, sl fx fi), (6, .sref 896 0 0 (mW s).length), (13, i6 f), (14, .sref 1456 0 0 ((mW a).length + 1)), (15, .slc true []), (16, i6 (IntKind.i64.wrap (i + 1)))] [(896, (rw4 s)), (1456, { v := 0, k := .row, fz := false, sz := 4, es := List.take (mW a).length (mW a) ++ [AV.agg [i6 d1.1, i6 d1.2.1, i6 d1.2.2.1, i6 d1.2.2.2]] })]))))
 none)
 none)
 none)
 none)
 (bK (decide (0 ≤ i ∧ i < (↑(mW s).length : Int)))
 (bK (decide (0 + i.toNat < (mW s).length))
 (oK (ldRow I1_tfs (mW s) (0 + i.toNat) 2) fun (d4 : Int) =>
 bK (decide (d4 = f)) (bK (decide (0 ≤ i ∧ i < (↑(mW s).length : Int))) (oK (ldRow Wait_tfs (mW s) (0 + i.toNat) 0) fun (d5 : Int × Int × Int × Int) => some (.inl (sf [(5, sl fx fi), (6, .sref 896 0 0 (mW s).length), (13, i6 f), (14, .sref 1456 0 0 (mW a).length), (15, .sref 1680 0 0 1), (16, i6 (IntKind.i64.wrap (i + 1)))] [(896, (rw4 s)), (1456, (rw4 a)), (1680, { v := 0, k := .row, fz := false, sz := 4, es := [AV.agg [i6 d5.1, i6 d5.2.1, i6 d5.2.2.1, i6 d5.2.2.2]] })]))) none) (some (.inl (sf [(5, sl fx fi), (6, .sref 896 0 0 (mW s).length), (13, i6 f), (14, .sref 1456 0 0 (mW a).length), (15, .slc true []), (16, i6 (IntKind.i64.wrap (i + 1)))] [(896, (rw4 s)), (1456, (rw4 a))]))))
 none)
 none))
 (some (.inr (.exit 8, (sf [(5, sl fx fi), (6, .sref 896 0 0 (mW s).length), (13, i6 f), (14, .sref 1456 0 0 (mW a).length), (15, .slc true [])] [(896, (rw4 s)), (1456, (rw4 a))]))))
theorem g8_s10_w (fx : Bool) (fi : List Wait_T) (s : List Wait_T) (f : Int) (a : List Wait_T) (i : Int) : g8_s10 fx fi s f a i = g8_s10_r fx fi s f a i := by kernel_rfl
def g8x10 (fx : Bool) (fi : List Wait_T) (s : List Wait_T) (f : Int) (a : List Wait_T) : St := { fr := [(5, .slc fx (fi.map (mkV true Wait_tfs))), (6, .sref 896 0 0 (s.map (mkV true Wait_tfs)).length), (13, .int .i64 f), (14, .sref 1456 0 0 (a.map (mkV true Wait_tfs)).length), (15, .slc true [])], bs := [(896, { v := 0, k := .row, fz := false, sz := 4, es := s.map (mkV true Wait_tfs) }), (1456, { v := 0, k := .row, fz := false, sz := 4, es := a.map (mkV true Wait_tfs) })], df := [] }
def g8h11 (fx : Bool) (fi : List Wait_T) (s : List Wait_T) (f : Int) (a : List Wait_T) (b : List Wait_T) (i : Int) : St := { fr := [(5, .slc fx (fi.map (mkV true Wait_tfs))), (6, .sref 896 0 0 (s.map (mkV true Wait_tfs)).length), (13, .int .i64 f), (14, .sref 1456 0 0 (a.map (mkV true Wait_tfs)).length), (15, .sref 1680 0 0 (b.map (mkV true Wait_tfs)).length), (16, .int .i64 i)], bs := [(896, { v := 0, k := .row, fz := false, sz := 4, es := s.map (mkV true Wait_tfs) }), (1456, { v := 0, k := .row, fz := false, sz := 4, es := a.map (mkV true Wait_tfs) }), (1680, { v := 0, k := .row, fz := false, sz := 4, es := b.map (mkV true Wait_tfs) })], df := [] }
noncomputable def g8_s11 (fx : Bool) (fi : List Wait_T) (s : List Wait_T) (f : Int) (a : List Wait_T) (b : List Wait_T) (i : Int) : Option (St ⊕ (Ex × St)) := stepK Try.prog cfg Gv3 LP0 8 8 (g8h11 fx fi s f a b i)
noncomputable def g8_s11_r (fx : Bool) (fi : List Wait_T) (s : List Wait_T) (f : Int) (a : List Wait_T) (b : List Wait_T) (i : Int) : Option (St ⊕ Ex × St) :=
 bK (decide (i < (↑(mW fi).length : Int)))
 (oK (elemAt true Wait_tfs (mW fi) i) fun (d0 : Int × Int × Int × Int) =>
 bK (decide (d0.2.2.1 = f))
 (oK (elemAt true Wait_tfs (mW fi) i) fun (d1 : Int × Int × Int × Int) =>
 bK (decide (0 + (mW a).length ≤ (mW a).length))
 (bK (decide (0 = 0 ∧ (mW a).length = (mW a).length) && bytesFit Try.prog 25 ((mW a).length + 1))
 (bK (decide (0 ≤ i ∧ i < (↑(mW s).length : Int)))
 (bK (decide (0 + i.toNat < (mW s).length))
 (oK (ldRow I1_tfs (mW s) (0 + i.toNat) 2) fun (d2 : Int) =>
 bK (decide (d2 = f))
 (bK (decide (0 ≤ i ∧ i < (↑(mW s).length : Int)))
 (oK (ldRow Wait_tfs (mW s) (0 + i.toNat) 0) fun (d3 : Int × Int × Int × Int) => bK (decide (0 + (mW b).length ≤ (mW b).length)) (bK (decide (0 = 0 ∧ (mW b).length = (mW b).length) && bytesFit Try.prog 25 ((mW b).length + 1)) (some (.inl (sf [(5, sl fx fi), (6, .sref 896 0 0 (mW s).length), (13, i6 f), (14, .sref 1456 0 0 ((mW a).length + 1)), (15, .sref 1680 0 0 ((mW b).length + 1)), (16, i6 (IntKind.i64.wrap (i + 1)))] [(896, (rw4 s)), (1456, { v := 0, k := .row, fz := false, sz := 4, es := List.take (mW a).length (mW a) ++ [AV.agg [i6 d1.1, i6 d1.2.1, i6 d1.2.2.1, i6 d1.2.2.2]] }), (1680, { v := 0, k := .row, fz := false, sz := 4, es := List.take (mW b).length (mW b) ++ [AV.agg [i6 d3.1, i6 d3.2.1, i6 d3.2.2.1, i6 d3.2.2.2]] })]))) none) none) none)
 (some (.inl (sf [(5, sl fx fi), (6, .sref 896 0 0 (mW s).length), (13, i6 f), (14, .sref 1456 0 0 ((mW a).length + 1)), (15, .sref 1680 0 0 (mW b).length), (16, i6 (IntKind.i64.wrap (i + 1)))] [(896, (rw4 s)), (1456, { v := 0, k := .row, fz := false, sz := 4, es := List.take (mW a).length (mW a) ++ [AV.agg [i6 d1.1, i6 d1.2.1, i6 d1.2.2.1, i6 d1.2.2.2]] }), (1680, (rw4 b))]))))
 none)
 none)
 none)
 none)
 (bK (decide (0 ≤ i ∧ i < (↑(mW s).length : Int)))
 (bK (decide (0 + i.toNat < (mW s).length))
 (oK (ldRow I1_tfs (mW s) (0 + i.toNat) 2) fun (d4 : Int) =>
 bK (decide (d4 = f)) (bK (decide (0 ≤ i ∧ i < (↑(mW s).length : Int))) (oK (ldRow Wait_tfs (mW s) (0 + i.toNat) 0) fun (d5 : Int × Int × Int × Int) => bK (decide (0 + (mW b).length ≤ (mW b).length)) (bK (decide (0 = 0 ∧ (mW b).length = (mW b).length) && bytesFit Try.prog 25 ((mW b).length + 1)) (some (.inl (sf [(5, sl fx fi), (6, .sref 896 0 0 (mW s).length), (13, i6 f), (14, .sref 1456 0 0 (mW a).length), (15, .sref 1680 0 0 ((mW b).length + 1)), (16, i6 (IntKind.i64.wrap (i + 1)))] [(896, (rw4 s)), (1456, (rw4 a)), (1680, { v := 0, k := .row, fz := false, sz := 4, es := List.take (mW b).length (mW b) ++ [AV.agg [i6 d5.1, i6 d5.2.1, i6 d5.2.2.1, i6 d5.2.2.2]] })]))) none) none) none)
 (some (.inl (sf [(5, sl fx fi), (6, .sref 896 0 0 (mW s).length), (13, i6 f), (14, .sref 1456 0 0 (mW a).length), (15, .sref 1680 0 0 (mW b).length), (16, i6 (IntKind.i64.wrap (i + 1)))] [(896, (rw4 s)), (1456, (rw4 a)), (1680, (rw4 b))]))))
 none)
 none))
 (some (.inr (.exit 8, (sf [(5, sl fx fi), (6, .sref 896 0 0 (mW s).length), (13, i6 f), (14, .sref 1456 0 0 (mW a).length), (15, .sref 1680 0 0 (mW b).length)] [(896, (rw4 s)), (1456, (rw4 a)), (1680, (rw4 b))]))))
theorem g8_s11_w (fx : Bool) (fi : List Wait_T) (s : List Wait_T) (f : Int) (a : List Wait_T) (b : List Wait_T) (i : Int) : g8_s11 fx fi s f a b i = g8_s11_r fx fi s f a b i := by kernel_rfl
def g8x11 (fx : Bool) (fi : List Wait_T) (s : List Wait_T) (f : Int) (a : List Wait_T) (b : List Wait_T) : St := { fr := [(5, .slc fx (fi.map (mkV true Wait_tfs))), (6, .sref 896 0 0 (s.map (mkV true Wait_tfs)).length), (13, .int .i64 f), (14, .sref 1456 0 0 (a.map (mkV true Wait_tfs)).length), (15, .sref 1680 0 0 (b.map (mkV true Wait_tfs)).length)], bs := [(896, { v := 0, k := .row, fz := false, sz := 4, es := s.map (mkV true Wait_tfs) }), (1456, { v := 0, k := .row, fz := false, sz := 4, es := a.map (mkV true Wait_tfs) }), (1680, { v := 0, k := .row, fz := false, sz := 4, es := b.map (mkV true Wait_tfs) })], df := [] }
def g8hn (fx : Bool) (fi : List Wait_T) (f i : Int) : St := { fr := [(5, .slc fx (fi.map (mkV true Wait_tfs))), (6, .slc true []), (13, .int .i64 f), (14, .slc true []), (15, .slc true []), (16, .int .i64 i)], bs := [], df := [] }
noncomputable def g8_sn (fx : Bool) (fi : List Wait_T) (f i : Int) : Option (St ⊕ (Ex × St)) := stepK Try.prog cfg Gv3 LP0 8 8 (g8hn fx fi f i)
noncomputable def g8_sn_r (fx : Bool) (fi : List Wait_T) (f : Int) (i : Int) : Option (St ⊕ Ex × St) :=
 bK (decide (i < (↑(mW fi).length : Int)))
 (oK (elemAt true Wait_tfs (mW fi) i) fun (d0 : Int × Int × Int × Int) =>
 bK (decide (d0.2.2.1 = f)) (oK (elemAt true Wait_tfs (mW fi) i) fun (d1 : Int × Int × Int × Int) => oK (elemAt true Wait_tfs [] i) fun (d2 : Int × Int × Int × Int) => bK (decide (d2.2.2.1 = f)) (oK (elemAt true Wait_tfs [] i) fun (d3 : Int × Int × Int × Int) => some (.inl (sf [(5, sl fx fi), (6, .slc true []), (13, i6 f), (14, .sref 1456 0 0 1), (15, .sref 1680 0 0 1), (16, i6 (IntKind.i64.wrap (i + 1)))] [(1456, { v := 0, k := .row, fz := false, sz := 4, es := [AV.agg [i6 d1.1, i6 d1.2.1, i6 d1.2.2.1, i6 d1.2.2.2]] }), (1680, { v := 0, k := .row, fz := false, sz := 4, es := [AV.agg [i6 d3.1, i6 d3.2.1, i6 d3.2.2.1, i6 d3.2.2.2]] })]))) (some (.inl (sf [(5, sl fx fi), (6, .slc true []), (13, i6 f), (14, .sref 1456 0 0 1), (15, .slc true []), (16, i6 (IntKind.i64.wrap (i + 1)))] [(1456, { v := 0, k := .row, fz := false, sz := 4, es := [AV.agg [i6 d1.1, i6 d1.2.1, i6 d1.2.2.1, i6 d1.2.2.2]] })]))))
 (oK (elemAt true Wait_tfs [] i) fun (d4 : Int × Int × Int × Int) => bK (decide (d4.2.2.1 = f)) (oK (elemAt true Wait_tfs [] i) fun (d5 : Int × Int × Int × Int) => some (.inl (sf [(5, sl fx fi), (6, .slc true []), (13, i6 f), (14, .slc true []), (15, .sref 1680 0 0 1), (16, i6 (IntKind.i64.wrap (i + 1)))] [(1680, { v := 0, k := .row, fz := false, sz := 4, es := [AV.agg [i6 d5.1, i6 d5.2.1, i6 d5.2.2.1, i6 d5.2.2.2]] })]))) (some (.inl (sf [(5, sl fx fi), (6, .slc true []), (13, i6 f), (14, .slc true []), (15, .slc true []), (16, i6 (IntKind.i64.wrap (i + 1)))] [])))))
 (some (.inr (.exit 8, (sf [(5, sl fx fi), (6, .slc true []), (13, i6 f), (14, .slc true []), (15, .slc true [])] []))))
theorem g8_sn_w (fx : Bool) (fi : List Wait_T) (f : Int) (i : Int) : g8_sn fx fi f i = g8_sn_r fx fi f i := by kernel_rfl
def g8xn (fx : Bool) (fi : List Wait_T) (f : Int) : St := { fr := [(5, .slc fx (fi.map (mkV true Wait_tfs))), (6, .slc true []), (13, .int .i64 f), (14, .slc true []), (15, .slc true [])], bs := [], df := [] }
theorem ldW2 (l : List Wait_T) (i : Nat) (h : i < l.length) : ldRow I1_tfs (l.map (mkV true Wait_tfs)) i 2 = some (l.getD i (0, 0, 0, 0)).2.2.1 := by
 have : l.getD i (0, 0, 0, 0) = l[i] := getD_at h _
 rw [this]
 simp [ldRow, h, ldCells, mkV, mkA, AV.cells, Tu.mk, Lf.mk, Tu.dec, Lf.dec]
theorem appW (a : List Wait_T) (u : Wait_T) : List.take (a.map (mkV true Wait_tfs)).length (a.map (mkV true Wait_tfs)) ++ [.agg [.int .i64 u.1, .int .i64 u.2.1, .int .i64 u.2.2.1, .int .i64 u.2.2.2]] = (a ++ [u]).map (mkV true Wait_tfs) := by rw [List.take_length, List.map_append]; rfl
theorem appWl (a : List Wait_T) (u : Wait_T) : (a.map (mkV true Wait_tfs)).length + 1 = ((a ++ [u]).map (mkV true Wait_tfs)).length := by simp
def gh8 (fx : Bool) (fi : List Wait_T) (s : List Wait_T) (f : Int) : List Wait_T → List Wait_T → Int → St
 | [], [], i => g8h00 fx fi s f i
 | [], y :: t, i => g8h01 fx fi s f (y :: t) i
 | x :: r, [], i => g8h10 fx fi s f (x :: r) i
 | x :: r, y :: t, i => g8h11 fx fi s f (x :: r) (y :: t) i
def gx8 (fx : Bool) (fi : List Wait_T) (s : List Wait_T) (f : Int) : List Wait_T → List Wait_T → St
 | [], [] => g8x00 fx fi s f
 | [], y :: t => g8x01 fx fi s f (y :: t)
 | x :: r, [] => g8x10 fx fi s f (x :: r)
 | x :: r, y :: t => g8x11 fx fi s f (x :: r) (y :: t)
theorem g8_e00 (fx : Bool) (fi : List Wait_T) (s : List Wait_T) (f : Int) (i : Nat) (hi : i < fi.length) (hs : s.length = fi.length) (hl : fi.length ≤ 1000) (u v : Wait_T) (hu : fi[i] = u) (hv : s[i] = v) : g8_s00 fx fi s f i = some (.inl (gh8 fx fi s f ([] ++ if u.2.2.1 = f then [u] else []) ([] ++ if v.2.2.1 = f then [v] else []) ((i + 1 : Nat) : Int))) := by
 have e2 : fi.getD (i : Int).toNat (0, 0, 0, 0) = u := by rw [Int.toNat_natCast, getD_at hi, hu]
 have at_ : ∀ {k : Wait_T → Option (St ⊕ (Ex × St))} {z : Option (St ⊕ (Ex × St))}, k u = z → oK (elemAt true Wait_tfs (fi.map (mkV true Wait_tfs)) i) k = z := fun hk => oK_atq (Q := fun y => y = _) (fs := Wait_tfs) (0, 0, 0, 0) (by omega) (by simpa using hi) (by rw [e2]; exact hk)
 have d0 : ldRow Wait_tfs (s.map (mkV true Wait_tfs)) (0 + (i : Int).toNat) 0 = some v := by rw [Nat.zero_add, Int.toNat_natCast, ldRow_map (fs := Wait_tfs) rfl s (0, 0, 0, 0) (by omega), getD_at (by omega), hv]
 have d2 : ldRow I1_tfs (s.map (mkV true Wait_tfs)) (0 + (i : Int).toNat) 2 = some v.2.2.1 := by rw [Nat.zero_add, Int.toNat_natCast, ldW2 s i (by omega), getD_at (by omega), hv]
 have ei : IntKind.i64.wrap ((i : Int) + 1) = ((i + 1 : Nat) : Int) := by rw [w64 (by omega) (by omega)]; omega
 have k1 : decide (0 ≤ (i : Int) ∧ (i : Int) < ((s.map (mkV true Wait_tfs)).length : Int)) = true := by simp; omega
 have k2 : decide (0 + (i : Int).toNat < (s.map (mkV true Wait_tfs)).length) = true := by simp; omega
 refine (g8_s00_w fx fi s f i).trans ?_
 unfold g8_s00_r
 rw [ei]
 refine bK_tq (Q := (· = _)) (by simp; omega) (at_ ?_)
 by_cases c1 : u.2.2.1 = f
 ·rw [if_pos c1]
  refine bK_tq (Q := (· = _)) (decide_eq_true c1) (at_ ?_)
  refine bK_tq (Q := (· = _)) k1 (bK_tq (Q := (· = _)) k2 (oK_q (Q := (· = _)) d2 ?_))
  by_cases c2 : v.2.2.1 = f
  ·rw [if_pos c2]
   refine bK_tq (Q := (· = _)) (decide_eq_true c2) (bK_tq (Q := (· = _)) k1 (oK_q (Q := (· = _)) d0 ?_))
   rfl
  ·rw [if_neg c2]
   refine bK_fq (Q := (· = _)) (decide_eq_false c2) ?_
   rfl
 ·rw [if_neg c1]
  refine bK_fq (Q := (· = _)) (decide_eq_false c1) (bK_tq (Q := (· = _)) k1 (bK_tq (Q := (· = _)) k2 (oK_q (Q := (· = _)) d2 ?_)))
  by_cases c2 : v.2.2.1 = f
  ·rw [if_pos c2]
   refine bK_tq (Q := (· = _)) (decide_eq_true c2) (bK_tq (Q := (· = _)) k1 (oK_q (Q := (· = _)) d0 ?_))
   rfl
  ·rw [if_neg c2]
   refine bK_fq (Q := (· = _)) (decide_eq_false c2) ?_
   rfl
theorem g8_e01 (fx : Bool) (fi : List Wait_T) (s : List Wait_T) (f : Int) (b0 : Wait_T) (br : List Wait_T) (hb : br.length ≤ 5000) (i : Nat) (hi : i < fi.length) (hs : s.length = fi.length) (hl : fi.length ≤ 1000) (u v : Wait_T) (hu : fi[i] = u) (hv : s[i] = v) : g8_s01 fx fi s f (b0 :: br) i = some (.inl (gh8 fx fi s f ([] ++ if u.2.2.1 = f then [u] else []) ((b0 :: br) ++ if v.2.2.1 = f then [v] else []) ((i + 1 : Nat) : Int))) := by
 have e2 : fi.getD (i : Int).toNat (0, 0, 0, 0) = u := by rw [Int.toNat_natCast, getD_at hi, hu]
 have at_ : ∀ {k : Wait_T → Option (St ⊕ (Ex × St))} {z : Option (St ⊕ (Ex × St))}, k u = z → oK (elemAt true Wait_tfs (fi.map (mkV true Wait_tfs)) i) k = z := fun hk => oK_atq (Q := fun y => y = _) (fs := Wait_tfs) (0, 0, 0, 0) (by omega) (by simpa using hi) (by rw [e2]; exact hk)
 have d0 : ldRow Wait_tfs (s.map (mkV true Wait_tfs)) (0 + (i : Int).toNat) 0 = some v := by rw [Nat.zero_add, Int.toNat_natCast, ldRow_map (fs := Wait_tfs) rfl s (0, 0, 0, 0) (by omega), getD_at (by omega), hv]
 have d2 : ldRow I1_tfs (s.map (mkV true Wait_tfs)) (0 + (i : Int).toNat) 2 = some v.2.2.1 := by rw [Nat.zero_add, Int.toNat_natCast, ldW2 s i (by omega), getD_at (by omega), hv]
 have ei : IntKind.i64.wrap ((i : Int) + 1) = ((i + 1 : Nat) : Int) := by rw [w64 (by omega) (by omega)]; omega
 have k1 : decide (0 ≤ (i : Int) ∧ (i : Int) < ((s.map (mkV true Wait_tfs)).length : Int)) = true := by simp; omega
 have k2 : decide (0 + (i : Int).toNat < (s.map (mkV true Wait_tfs)).length) = true := by simp; omega
 refine (g8_s01_w fx fi s f (b0 :: br) i).trans ?_
 unfold g8_s01_r
 rw [ei]
 refine bK_tq (Q := (· = _)) (by simp; omega) (at_ ?_)
 by_cases c1 : u.2.2.1 = f
 ·rw [if_pos c1]
  refine bK_tq (Q := (· = _)) (decide_eq_true c1) (at_ ?_)
  refine bK_tq (Q := (· = _)) k1 (bK_tq (Q := (· = _)) k2 (oK_q (Q := (· = _)) d2 ?_))
  by_cases c2 : v.2.2.1 = f
  ·rw [if_pos c2]
   refine bK_tq (Q := (· = _)) (decide_eq_true c2) (bK_tq (Q := (· = _)) k1 (oK_q (Q := (· = _)) d0 ?_))
   refine bK_tq (Q := (· = _)) (by simp) (bK_tq (Q := (· = _)) (by rw [cwfit (by simp; omega)]; simp) ?_)
   rw [appW (b0 :: br) v, appWl (b0 :: br) v]
   rfl
  ·rw [if_neg c2]
   refine bK_fq (Q := (· = _)) (decide_eq_false c2) ?_
   rw [List.append_nil (b0 :: br)]
   rfl
 ·rw [if_neg c1]
  refine bK_fq (Q := (· = _)) (decide_eq_false c1) (bK_tq (Q := (· = _)) k1 (bK_tq (Q := (· = _)) k2 (oK_q (Q := (· = _)) d2 ?_)))
  by_cases c2 : v.2.2.1 = f
  ·rw [if_pos c2]
   refine bK_tq (Q := (· = _)) (decide_eq_true c2) (bK_tq (Q := (· = _)) k1 (oK_q (Q := (· = _)) d0 ?_))
   refine bK_tq (Q := (· = _)) (by simp) (bK_tq (Q := (· = _)) (by rw [cwfit (by simp; omega)]; simp) ?_)
   rw [appW (b0 :: br) v, appWl (b0 :: br) v]
   rfl
  ·rw [if_neg c2]
   refine bK_fq (Q := (· = _)) (decide_eq_false c2) ?_
   rw [List.append_nil (b0 :: br)]
   rfl
theorem g8_e10 (fx : Bool) (fi : List Wait_T) (s : List Wait_T) (f : Int) (a0 : Wait_T) (ar : List Wait_T) (ha : ar.length ≤ 5000) (i : Nat) (hi : i < fi.length) (hs : s.length = fi.length) (hl : fi.length ≤ 1000) (u v : Wait_T) (hu : fi[i] = u) (hv : s[i] = v) : g8_s10 fx fi s f (a0 :: ar) i = some (.inl (gh8 fx fi s f ((a0 :: ar) ++ if u.2.2.1 = f then [u] else []) ([] ++ if v.2.2.1 = f then [v] else []) ((i + 1 : Nat) : Int))) := by
 have e2 : fi.getD (i : Int).toNat (0, 0, 0, 0) = u := by rw [Int.toNat_natCast, getD_at hi, hu]
 have at_ : ∀ {k : Wait_T → Option (St ⊕ (Ex × St))} {z : Option (St ⊕ (Ex × St))}, k u = z → oK (elemAt true Wait_tfs (fi.map (mkV true Wait_tfs)) i) k = z := fun hk => oK_atq (Q := fun y => y = _) (fs := Wait_tfs) (0, 0, 0, 0) (by omega) (by simpa using hi) (by rw [e2]; exact hk)
 have d0 : ldRow Wait_tfs (s.map (mkV true Wait_tfs)) (0 + (i : Int).toNat) 0 = some v := by rw [Nat.zero_add, Int.toNat_natCast, ldRow_map (fs := Wait_tfs) rfl s (0, 0, 0, 0) (by omega), getD_at (by omega), hv]
 have d2 : ldRow I1_tfs (s.map (mkV true Wait_tfs)) (0 + (i : Int).toNat) 2 = some v.2.2.1 := by rw [Nat.zero_add, Int.toNat_natCast, ldW2 s i (by omega), getD_at (by omega), hv]
 have ei : IntKind.i64.wrap ((i : Int) + 1) = ((i + 1 : Nat) : Int) := by rw [w64 (by omega) (by omega)]; omega
 have k1 : decide (0 ≤ (i : Int) ∧ (i : Int) < ((s.map (mkV true Wait_tfs)).length : Int)) = true := by simp; omega
 have k2 : decide (0 + (i : Int).toNat < (s.map (mkV true Wait_tfs)).length) = true := by simp; omega
 refine (g8_s10_w fx fi s f (a0 :: ar) i).trans ?_
 unfold g8_s10_r
 rw [ei]
 refine bK_tq (Q := (· = _)) (by simp; omega) (at_ ?_)
 by_cases c1 : u.2.2.1 = f
 ·rw [if_pos c1]
  refine bK_tq (Q := (· = _)) (decide_eq_true c1) (at_ ?_)
  refine bK_tq (Q := (· = _)) (by simp) (bK_tq (Q := (· = _)) (by rw [cwfit (by simp; omega)]; simp) ?_)
  refine bK_tq (Q := (· = _)) k1 (bK_tq (Q := (· = _)) k2 (oK_q (Q := (· = _)) d2 ?_))
  by_cases c2 : v.2.2.1 = f
  ·rw [if_pos c2]
   refine bK_tq (Q := (· = _)) (decide_eq_true c2) (bK_tq (Q := (· = _)) k1 (oK_q (Q := (· = _)) d0 ?_))
   rw [appW (a0 :: ar) u, appWl (a0 :: ar) u]
   rfl
  ·rw [if_neg c2]
   refine bK_fq (Q := (· = _)) (decide_eq_false c2) ?_
   rw [appW (a0 :: ar) u, appWl (a0 :: ar) u]
   rfl
 ·rw [if_neg c1]
  rw [List.append_nil (a0 :: ar)]
  refine bK_fq (Q := (· = _)) (decide_eq_false c1) (bK_tq (Q := (· = _)) k1 (bK_tq (Q := (· = _)) k2 (oK_q (Q := (· = _)) d2 ?_)))
  by_cases c2 : v.2.2.1 = f
  ·rw [if_pos c2]
   refine bK_tq (Q := (· = _)) (decide_eq_true c2) (bK_tq (Q := (· = _)) k1 (oK_q (Q := (· = _)) d0 ?_))
   rfl
  ·rw [if_neg c2]
   refine bK_fq (Q := (· = _)) (decide_eq_false c2) ?_
   rfl
theorem g8_e11 (fx : Bool) (fi : List Wait_T) (s : List Wait_T) (f : Int) (a0 : Wait_T) (ar : List Wait_T) (ha : ar.length ≤ 5000) (b0 : Wait_T) (br : List Wait_T) (hb : br.length ≤ 5000) (i : Nat) (hi : i < fi.length) (hs : s.length = fi.length) (hl : fi.length ≤ 1000) (u v : Wait_T) (hu : fi[i] = u) (hv : s[i] = v) : g8_s11 fx fi s f (a0 :: ar) (b0 :: br) i = some (.inl (gh8 fx fi s f ((a0 :: ar) ++ if u.2.2.1 = f then [u] else []) ((b0 :: br) ++ if v.2.2.1 = f then [v] else []) ((i + 1 : Nat) : Int))) := by
 have e2 : fi.getD (i : Int).toNat (0, 0, 0, 0) = u := by rw [Int.toNat_natCast, getD_at hi, hu]
 have at_ : ∀ {k : Wait_T → Option (St ⊕ (Ex × St))} {z : Option (St ⊕ (Ex × St))}, k u = z → oK (elemAt true Wait_tfs (fi.map (mkV true Wait_tfs)) i) k = z := fun hk => oK_atq (Q := fun y => y = _) (fs := Wait_tfs) (0, 0, 0, 0) (by omega) (by simpa using hi) (by rw [e2]; exact hk)
 have d0 : ldRow Wait_tfs (s.map (mkV true Wait_tfs)) (0 + (i : Int).toNat) 0 = some v := by rw [Nat.zero_add, Int.toNat_natCast, ldRow_map (fs := Wait_tfs) rfl s (0, 0, 0, 0) (by omega), getD_at (by omega), hv]
 have d2 : ldRow I1_tfs (s.map (mkV true Wait_tfs)) (0 + (i : Int).toNat) 2 = some v.2.2.1 := by rw [Nat.zero_add, Int.toNat_natCast, ldW2 s i (by omega), getD_at (by omega), hv]
 have ei : IntKind.i64.wrap ((i : Int) + 1) = ((i + 1 : Nat) : Int) := by rw [w64 (by omega) (by omega)]; omega
 have k1 : decide (0 ≤ (i : Int) ∧ (i : Int) < ((s.map (mkV true Wait_tfs)).length : Int)) = true := by simp; omega
 have k2 : decide (0 + (i : Int).toNat < (s.map (mkV true Wait_tfs)).length) = true := by simp; omega
 refine (g8_s11_w fx fi s f (a0 :: ar) (b0 :: br) i).trans ?_
 unfold g8_s11_r
 rw [ei]
 refine bK_tq (Q := (· = _)) (by simp; omega) (at_ ?_)
 by_cases c1 : u.2.2.1 = f
 ·rw [if_pos c1]
  refine bK_tq (Q := (· = _)) (decide_eq_true c1) (at_ ?_)
  refine bK_tq (Q := (· = _)) (by simp) (bK_tq (Q := (· = _)) (by rw [cwfit (by simp; omega)]; simp) ?_)
  refine bK_tq (Q := (· = _)) k1 (bK_tq (Q := (· = _)) k2 (oK_q (Q := (· = _)) d2 ?_))
  by_cases c2 : v.2.2.1 = f
  ·rw [if_pos c2]
   refine bK_tq (Q := (· = _)) (decide_eq_true c2) (bK_tq (Q := (· = _)) k1 (oK_q (Q := (· = _)) d0 ?_))
   refine bK_tq (Q := (· = _)) (by simp) (bK_tq (Q := (· = _)) (by rw [cwfit (by simp; omega)]; simp) ?_)
   rw [appW (b0 :: br) v, appWl (b0 :: br) v]
   rw [appW (a0 :: ar) u, appWl (a0 :: ar) u]
   rfl
  ·rw [if_neg c2]
   refine bK_fq (Q := (· = _)) (decide_eq_false c2) ?_
   rw [List.append_nil (b0 :: br)]
   rw [appW (a0 :: ar) u, appWl (a0 :: ar) u]
   rfl
 ·rw [if_neg c1]
  rw [List.append_nil (a0 :: ar)]
  refine bK_fq (Q := (· = _)) (decide_eq_false c1) (bK_tq (Q := (· = _)) k1 (bK_tq (Q := (· = _)) k2 (oK_q (Q := (· = _)) d2 ?_)))
  by_cases c2 : v.2.2.1 = f
  ·rw [if_pos c2]
   refine bK_tq (Q := (· = _)) (decide_eq_true c2) (bK_tq (Q := (· = _)) k1 (oK_q (Q := (· = _)) d0 ?_))
   refine bK_tq (Q := (· = _)) (by simp) (bK_tq (Q := (· = _)) (by rw [cwfit (by simp; omega)]; simp) ?_)
   rw [appW (b0 :: br) v, appWl (b0 :: br) v]
   rfl
  ·rw [if_neg c2]
   refine bK_fq (Q := (· = _)) (decide_eq_false c2) ?_
   rw [List.append_nil (b0 :: br)]
   rfl
theorem g8_e (fx : Bool) (fi : List Wait_T) (s : List Wait_T) (f : Int) (a b : List Wait_T) (ha : a.length ≤ 5000) (hb : b.length ≤ 5000) (i : Nat) (hi : i < fi.length) (hs : s.length = fi.length) (hl : fi.length ≤ 1000) (u v : Wait_T) (hu : fi[i] = u) (hv : s[i] = v) : stepK Try.prog cfg Gv3 LP0 8 8 (gh8 fx fi s f a b i) = some (.inl (gh8 fx fi s f (a ++ if u.2.2.1 = f then [u] else []) (b ++ if v.2.2.1 = f then [v] else []) ((i + 1 : Nat) : Int))) := by
 cases a with
 | nil => cases b with
  | nil => exact g8_e00 fx fi s f i hi hs hl u v hu hv
  | cons b0 br => exact g8_e01 fx fi s f b0 br (by simp at hb; omega) i hi hs hl u v hu hv
 | cons a0 ar => cases b with
  | nil => exact g8_e10 fx fi s f a0 ar (by simp at ha; omega) i hi hs hl u v hu hv
  | cons b0 br => exact g8_e11 fx fi s f a0 ar (by simp at ha; omega) b0 br (by simp at hb; omega) i hi hs hl u v hu hv
theorem app_filt (a : List Wait_T) (u : Wait_T) (r : List Wait_T) (f : Int) : (a ++ if u.2.2.1 = f then [u] else []) ++ r.filter (fF f) = a ++ (u :: r).filter (fF f) := by
 by_cases h : u.2.2.1 = f <;> simp [fF, h]
theorem app_len (a : List Wait_T) (u : Wait_T) (f : Int) : (a ++ if u.2.2.1 = f then [u] else []).length ≤ a.length + 1 := by
 by_cases h : u.2.2.1 = f <;> simp [h]
theorem ga88 : At 0 (codeOf Try.prog 8) 8 (.loop (bodyAt Try.prog 8 8)) := at_body go8 (by rw [gl8]; decide)
theorem ga86 : At 0 (codeOf Try.prog 8) 6 (.loop (bodyAt Try.prog 8 6)) := at_body go8 (by rw [gl8]; decide)
theorem g8_run (fx : Bool) (fi : List Wait_T) (s : List Wait_T) (f : Int) (hs : s.length = fi.length) (hl : fi.length ≤ 1000) : ∀ (j n : Nat) (a b : List Wait_T), n + j = fi.length → a.length + j ≤ 5000 → b.length + j ≤ 5000 → ∀ (fu : Nat), j < fu → Runs' Try.prog cfg Gv3 8 8 fu (gh8 fx fi s f a b n) (.exit 8, gx8 fx fi s f (a ++ (fi.drop n).filter (fF f)) (b ++ (s.drop n).filter (fF f)))
 | 0, n, a, b, hn, ha, hb, fu + 1, hf => by
  rw [List.drop_of_length_le (show fi.length ≤ n by omega), List.drop_of_length_le (show s.length ≤ n by omega), List.filter_nil, List.append_nil, List.append_nil]
  cases a with
  | nil => cases b with
   | nil =>
    refine Runs'.done (lp := LP0) LPok.none ga88 ((g8_s00_w fx fi s f n).trans ?_)
    unfold g8_s00_r
    exact bK_neg (by simp; omega)
   | cons b0 br =>
    refine Runs'.done (lp := LP0) LPok.none ga88 ((g8_s01_w fx fi s f (b0 :: br) n).trans ?_)
    unfold g8_s01_r
    exact bK_neg (by simp; omega)
  | cons a0 ar => cases b with
   | nil =>
    refine Runs'.done (lp := LP0) LPok.none ga88 ((g8_s10_w fx fi s f (a0 :: ar) n).trans ?_)
    unfold g8_s10_r
    exact bK_neg (by simp; omega)
   | cons b0 br =>
    refine Runs'.done (lp := LP0) LPok.none ga88 ((g8_s11_w fx fi s f (a0 :: ar) (b0 :: br) n).trans ?_)
    unfold g8_s11_r
    exact bK_neg (by simp; omega)
 | j + 1, n, a, b, hn, ha, hb, fu + 1, hf => by
  have h1 : n < fi.length := by omega
  have h2 : n < s.length := by omega
  have he := g8_e fx fi s f a b (by omega) (by omega) n h1 hs hl fi[n] s[n] rfl rfl
  have l1 := app_len a fi[n] f
  have l2 := app_len b s[n] f
  have hr := g8_run fx fi s f hs hl j (n + 1) (a ++ if fi[n].2.2.1 = f then [fi[n]] else []) (b ++ if s[n].2.2.1 = f then [s[n]] else []) (by omega) (by omega) (by omega) fu (by omega)
  rw [app_filt, app_filt, ← List.drop_eq_getElem_cons h1, ← List.drop_eq_getElem_cons h2] at hr
  exact Runs'.step (lp := LP0) LPok.none ga88 he hr
abbrev G8D : Type := (Bool × List Wait_T) × List Wait_T × Int
def g8Hd (d : G8D) : St := match d.2.1 with
 | [] => g8hn d.1.1 d.1.2 d.2.2 0
 | x :: r => g8h00 d.1.1 d.1.2 (x :: r) d.2.2 0
theorem g8Hd_inj (d d' : G8D) (h : g8Hd d = g8Hd d') : d = d' := by
 obtain ⟨⟨fx, fi⟩, s, f⟩ := d
 obtain ⟨⟨fx', fi'⟩, s', f'⟩ := d'
 cases s with
 | nil => cases s' with
  | nil =>
   simp only [g8Hd, g8hn, St.mk.injEq, List.cons.injEq, Prod.mk.injEq, AV.slc.injEq, AV.int.injEq, and_true, true_and] at h
   obtain ⟨⟨h1, h2⟩, h3⟩ := h
   rw [h1, map_inj (fs := Wait_tfs) rfl h2, h3]
  | cons b r => simp [g8Hd, g8hn, g8h00] at h
 | cons b r => cases s' with
  | nil => simp [g8Hd, g8hn, g8h00] at h
  | cons b' r' =>
   have h' : g8h00 fx fi (b :: r) f 0 = g8h00 fx' fi' (b' :: r') f' 0 := h
   simp only [g8h00, St.mk.injEq, List.cons.injEq, Prod.mk.injEq, AV.slc.injEq, AV.int.injEq, Blk.mk.injEq, and_true, true_and] at h'
   obtain ⟨⟨⟨h1, h2⟩, h3, h4⟩, h5⟩ := h'
   rw [h1, map_inj (fs := Wait_tfs) rfl h2, h4, map_inj (fs := Wait_tfs) rfl h5]
def flQ (f : Int) (l : List Wait_T) : List Wait_T := l.filter (fF f)
noncomputable def g8L : LP := LP.of g8Hd (fun d => d.2.1.length = d.1.2.length ∧ d.1.2.length ≤ 1000) fun d => .ite (noW d.2.1) (.leaf (.exit 8, g8xn d.1.1 d.1.2 d.2.2)) (.ite (noW (flQ d.2.2 d.1.2)) (.ite (noW (flQ d.2.2 d.2.1)) (.leaf (.exit 8, g8x00 d.1.1 d.1.2 d.2.1 d.2.2)) (.leaf (.exit 8, g8x01 d.1.1 d.1.2 d.2.1 d.2.2 (flQ d.2.2 d.2.1)))) (.ite (noW (flQ d.2.2 d.2.1)) (.leaf (.exit 8, g8x10 d.1.1 d.1.2 d.2.1 d.2.2 (flQ d.2.2 d.1.2))) (.leaf (.exit 8, g8x11 d.1.1 d.1.2 d.2.1 d.2.2 (flQ d.2.2 d.1.2) (flQ d.2.2 d.2.1)))))
noncomputable def g8P : LPs := LPs.add gvP 8 8 g8L
theorem g8P_ok : LPok Try.prog cfg Gv3 g8P 8 := LPok.addH gvP_ok go8 (by
 rintro ⟨⟨fx, fi⟩, s, f⟩ ⟨h1, h2⟩
 dsimp only at h1 h2
 cases s with
 | nil =>
  have h3 : fi = [] := List.eq_nil_of_length_eq_zero h1.symm
  subst h3
  refine Runs'.done (lp := LP0) LPok.none ga88 ((g8_sn_w fx [] f 0).trans ?_)
  unfold g8_sn_r
  exact bK_neg (by simp)
 | cons b r =>
  have hr := g8_run fx fi (b :: r) f h1 h2 fi.length 0 [] [] (by omega) (by simp only [List.length_nil]; omega) (by simp only [List.length_nil]; omega) rounds (by simp only [rounds]; omega)
  refine cast ?_ hr
  congr 1
  have e1 : [] ++ (fi.drop 0).filter (fF f) = flQ f fi := rfl
  have e2 : [] ++ ((b :: r).drop 0).filter (fF f) = flQ f (b :: r) := rfl
  rw [e1, e2]
  dsimp only
  have e3 : noW (b :: r) = false := rfl
  rw [e3]
  cases flQ f fi with
  | nil => cases flQ f (b :: r) with
   | nil => rfl
   | cons c0 cr => rfl
  | cons a0 ar => cases flQ f (b :: r) with
   | nil => rfl
   | cons c0 cr => rfl)
def g6h0 (fx : Bool) (fi : List Wait_T) (f : Int) : St := { fr := [(5, .slc fx (fi.map (mkV true Wait_tfs))), (6, .slc true []), (13, .int .i64 f)], bs := [], df := [] }
def g6h1 (fx : Bool) (fi : List Wait_T) (s : List Wait_T) (f : Int) : St := { fr := [(5, .slc fx (fi.map (mkV true Wait_tfs))), (6, .sref 896 0 0 (s.map (mkV true Wait_tfs)).length), (13, .int .i64 f)], bs := [(896, { v := 0, k := .row, fz := false, sz := 4, es := s.map (mkV true Wait_tfs) })], df := [] }
noncomputable def g6_s0 (fx : Bool) (fi : List Wait_T) (f : Int) : Option (St ⊕ (Ex × St)) := stepK Try.prog cfg Gv3 g8P 8 6 (g6h0 fx fi f)
noncomputable def g6_s0_r (fx : Bool) (fi : List Wait_T) (f : Int) : Option (St ⊕ Ex × St) :=
 bK (decide (f ≤ 3))
 (oK (g8L.dec (sf [(5, sl fx fi), (6, .slc true []), (13, i6 f), (14, .slc true []), (15, .slc true []), (16, i6 0)] [])) fun (d0 : LW × List Wait_T × Int) =>
 bK (noW d0.2.1) (oK (swSw.dec [.slc true [], .slc true []] []) fun (d1 : LW × Bool × List Wait_T) => bK (!swQw d1.1.2 d1.2.2) (some (.inr (.ret, (sf [(2, .bool false)] [])))) (some (.inl (sf [(5, sl d0.1.1 d0.1.2), (6, .slc true []), (13, i6 (IntKind.i64.wrap (d0.2.2 + 1)))] []))))
 (bK (noW (flQ d0.2.2 d0.1.2))
 (bK (noW (flQ d0.2.2 d0.2.1)) (oK (swSw.dec [.slc true [], .slc true []] []) fun (d2 : LW × Bool × List Wait_T) => bK (!swQw d2.1.2 d2.2.2) (some (.inr (.ret, (sf [(2, .bool false)] [])))) (some (.inl (sf [(5, sl d0.1.1 d0.1.2), (6, .sref 896 0 0 (mW d0.2.1).length), (13, i6 (IntKind.i64.wrap (d0.2.2 + 1)))] [(896, (rw4 d0.2.1))]))))
 (bK (decide (0 + (mW (flQ d0.2.2 d0.2.1)).length ≤ (mW (flQ d0.2.2 d0.2.1)).length)) (oK (swSw.dec [.slc true [], .slc false (List.take (mW (flQ d0.2.2 d0.2.1)).length (List.drop 0 (mW (flQ d0.2.2 d0.2.1))))] []) fun (d3 : LW × Bool × List Wait_T) => bK (!swQw d3.1.2 d3.2.2) (some (.inr (.ret, (sf [(2, .bool false)] [])))) (some (.inl (sf [(5, sl d0.1.1 d0.1.2), (6, .sref 896 0 0 (mW d0.2.1).length), (13, i6 (IntKind.i64.wrap (d0.2.2 + 1)))] [(896, (rw4 d0.2.1))])))) none))
 (bK (noW (flQ d0.2.2 d0.2.1)) (bK (decide (0 + (mW (flQ d0.2.2 d0.1.2)).length ≤ (mW (flQ d0.2.2 d0.1.2)).length)) (oK (swSw.dec [.slc false (List.take (mW (flQ d0.2.2 d0.1.2)).length (List.drop 0 (mW (flQ d0.2.2 d0.1.2)))), .slc true []] []) fun (d4 : LW × Bool × List Wait_T) => bK (!swQw d4.1.2 d4.2.2) (some (.inr (.ret, (sf [(2, .bool false)] [])))) (some (.inl (sf [(5, sl d0.1.1 d0.1.2), (6, .sref 896 0 0 (mW d0.2.1).length), (13, i6 (IntKind.i64.wrap (d0.2.2 + 1)))] [(896, (rw4 d0.2.1))])))) none)
 (bK (decide (0 + (mW (flQ d0.2.2 d0.1.2)).length ≤ (mW (flQ d0.2.2 d0.1.2)).length)) (bK (decide (0 + (mW (flQ d0.2.2 d0.2.1)).length ≤ (mW (flQ d0.2.2 d0.2.1)).length)) (oK (swSw.dec [.slc false (List.take (mW (flQ d0.2.2 d0.1.2)).length (List.drop 0 (mW (flQ d0.2.2 d0.1.2)))), .slc false (List.take (mW (flQ d0.2.2 d0.2.1)).length (List.drop 0 (mW (flQ d0.2.2 d0.2.1))))] []) fun (d5 : LW × Bool × List Wait_T) => bK (!swQw d5.1.2 d5.2.2) (some (.inr (.ret, (sf [(2, .bool false)] [])))) (some (.inl (sf [(5, sl d0.1.1 d0.1.2), (6, .sref 896 0 0 (mW d0.2.1).length), (13, i6 (IntKind.i64.wrap (d0.2.2 + 1)))] [(896, (rw4 d0.2.1))])))) none) none))))
 (some (.inr (.exit 6, (sf [] []))))
theorem g6_s0_w (fx : Bool) (fi : List Wait_T) (f : Int) : g6_s0 fx fi f = g6_s0_r fx fi f := by kernel_rfl
noncomputable def g6_s1 (fx : Bool) (fi : List Wait_T) (s : List Wait_T) (f : Int) : Option (St ⊕ (Ex × St)) := stepK Try.prog cfg Gv3 g8P 8 6 (g6h1 fx fi s f)
noncomputable def g6_s1_r (fx : Bool) (fi : List Wait_T) (s : List Wait_T) (f : Int) : Option (St ⊕ Ex × St) :=
 bK (decide (f ≤ 3))
 (oK (g8L.dec (sf [(5, sl fx fi), (6, .sref 896 0 0 (mW s).length), (13, i6 f), (14, .slc true []), (15, .slc true []), (16, i6 0)] [(896, (rw4 s))])) fun (d0 : LW × List Wait_T × Int) =>
 bK (noW d0.2.1) (oK (swSw.dec [.slc true [], .slc true []] []) fun (d1 : LW × Bool × List Wait_T) => bK (!swQw d1.1.2 d1.2.2) (some (.inr (.ret, (sf [(2, .bool false)] [])))) (some (.inl (sf [(5, sl d0.1.1 d0.1.2), (6, .slc true []), (13, i6 (IntKind.i64.wrap (d0.2.2 + 1)))] []))))
 (bK (noW (flQ d0.2.2 d0.1.2))
 (bK (noW (flQ d0.2.2 d0.2.1)) (oK (swSw.dec [.slc true [], .slc true []] []) fun (d2 : LW × Bool × List Wait_T) => bK (!swQw d2.1.2 d2.2.2) (some (.inr (.ret, (sf [(2, .bool false)] [])))) (some (.inl (sf [(5, sl d0.1.1 d0.1.2), (6, .sref 896 0 0 (mW d0.2.1).length), (13, i6 (IntKind.i64.wrap (d0.2.2 + 1)))] [(896, (rw4 d0.2.1))]))))
 (bK (decide (0 + (mW (flQ d0.2.2 d0.2.1)).length ≤ (mW (flQ d0.2.2 d0.2.1)).length)) (oK (swSw.dec [.slc true [], .slc false (List.take (mW (flQ d0.2.2 d0.2.1)).length (List.drop 0 (mW (flQ d0.2.2 d0.2.1))))] []) fun (d3 : LW × Bool × List Wait_T) => bK (!swQw d3.1.2 d3.2.2) (some (.inr (.ret, (sf [(2, .bool false)] [])))) (some (.inl (sf [(5, sl d0.1.1 d0.1.2), (6, .sref 896 0 0 (mW d0.2.1).length), (13, i6 (IntKind.i64.wrap (d0.2.2 + 1)))] [(896, (rw4 d0.2.1))])))) none))
 (bK (noW (flQ d0.2.2 d0.2.1)) (bK (decide (0 + (mW (flQ d0.2.2 d0.1.2)).length ≤ (mW (flQ d0.2.2 d0.1.2)).length)) (oK (swSw.dec [.slc false (List.take (mW (flQ d0.2.2 d0.1.2)).length (List.drop 0 (mW (flQ d0.2.2 d0.1.2)))), .slc true []] []) fun (d4 : LW × Bool × List Wait_T) => bK (!swQw d4.1.2 d4.2.2) (some (.inr (.ret, (sf [(2, .bool false)] [])))) (some (.inl (sf [(5, sl d0.1.1 d0.1.2), (6, .sref 896 0 0 (mW d0.2.1).length), (13, i6 (IntKind.i64.wrap (d0.2.2 + 1)))] [(896, (rw4 d0.2.1))])))) none)
 (bK (decide (0 + (mW (flQ d0.2.2 d0.1.2)).length ≤ (mW (flQ d0.2.2 d0.1.2)).length)) (bK (decide (0 + (mW (flQ d0.2.2 d0.2.1)).length ≤ (mW (flQ d0.2.2 d0.2.1)).length)) (oK (swSw.dec [.slc false (List.take (mW (flQ d0.2.2 d0.1.2)).length (List.drop 0 (mW (flQ d0.2.2 d0.1.2)))), .slc false (List.take (mW (flQ d0.2.2 d0.2.1)).length (List.drop 0 (mW (flQ d0.2.2 d0.2.1))))] []) fun (d5 : LW × Bool × List Wait_T) => bK (!swQw d5.1.2 d5.2.2) (some (.inr (.ret, (sf [(2, .bool false)] [])))) (some (.inl (sf [(5, sl d0.1.1 d0.1.2), (6, .sref 896 0 0 (mW d0.2.1).length), (13, i6 (IntKind.i64.wrap (d0.2.2 + 1)))] [(896, (rw4 d0.2.1))])))) none) none))))
 (some (.inr (.exit 6, (sf [] []))))
theorem g6_s1_w (fx : Bool) (fi : List Wait_T) (s : List Wait_T) (f : Int) : g6_s1 fx fi s f = g6_s1_r fx fi s f := by kernel_rfl
end Go.Proofs.Ytkanmigbbpppnaa
