/- A part of the proof: contracts of functions. -/
import Derived.Test.YtlomiepgghlhbaaY
import Derived.Test.YtlomiepgghlhbaaAbAny

set_option linter.unusedVariables false
set_option linter.unusedSimpArgs false
set_option maxRecDepth 100000
namespace Go.Proofs.Ytlomiepgghlhbaa
open Go Go.Ab
set_option maxHeartbeats 8000000
def dl8 (mx : Bool) (m : List Row2) (La Lx : List (List UInt8)) (i : Int) (s t : List UInt8) (k : Int) (one : Bool) (n : Int) : St := { fr := [(1, .slc mx (m.map (mkV true Row2_fs))), (9, .ptr 144 0 0 0), (11, .ptr 176 0 0 0), (12, .int .i64 i), (13, .str s), (15, .str t), (17, .int .i64 k), (18, .bool one), (19, .int .i64 n)], bs := [(144, dskB false La true []), (176, dskB false Lx true [])], df := [] }
noncomputable def dl8_s (mx : Bool) (m : List Row2) (La Lx : List (List UInt8)) (i : Int) (s t : List UInt8) (k : Int) (one : Bool) (n : Int) : Option (St ⊕ (Ex × St)) := stepK Try.prog cfg B7 LP0 4 8 (dl8 mx m La Lx i s t k one n)
noncomputable def dl8_s_r (mx : Bool) (m : List Row2) (La : List (List UInt8)) (Lx : List (List UInt8)) (i : Int) (s : List UInt8) (t : List UInt8) (k : Int) (one : Bool) (n : Int) : Option (St ⊕ Ex × St) :=
  bK (decide (n < (↑(List.map (mkV true [Lf.fi IntKind.u8, Lf.fi IntKind.u8]) m).length : Int)))
  (bK one (some (Sum.inl { fr := [(1, AV.slc mx (List.map (mkV true [Lf.fi IntKind.u8, Lf.fi IntKind.u8]) m)), (9, AV.ptr 144 0 0 0), (11, AV.ptr 176 0 0 0), (12, AV.int IntKind.i64 i), (13, AV.str s), (15, AV.str t), (17, AV.int IntKind.i64 k), (18, AV.bool true), (19, AV.int IntKind.i64 (IntKind.i64.wrap (n + 1)))], bs := [(144, { v := 0, k := BK.box, fz := false, sz := 0, es := [AV.slc false (List.map (mkV false [Lf.fs]) La), AV.slc true [], AV.int IntKind.i64 0, AV.bool false] }), (176, { v := 0, k := BK.box, fz := false, sz := 0, es := [AV.slc false (List.map (mkV false [Lf.fs]) Lx), AV.slc true [], AV.int IntKind.i64 0, AV.bool false] })], df := [] }))
    (oK (elemAt true [Lf.fi IntKind.u8, Lf.fi IntKind.u8] (List.map (mkV true [Lf.fi IntKind.u8, Lf.fi IntKind.u8]) m) n) fun (d0 : Int × Int) =>
      bK (decide (IntKind.i64.wrap (Int.tmod d0.fst 5) = i)) (oK (elemAt true [Lf.fi IntKind.u8, Lf.fi IntKind.u8] (List.map (mkV true [Lf.fi IntKind.u8, Lf.fi IntKind.u8]) m) n) fun (d1 : Int × Int) => oK (secS.dec [AV.int IntKind.u8 d1.snd] []) fun (d2 : Int) => bK (decide (0 ≤ k)) (oK (secQ d2)[k.toNat]? fun (d3 : UInt8) => bK (decide (0 ≤ k)) (oK s[k.toNat]? fun (d4 : UInt8) => some (Sum.inl { fr := [(1, AV.slc mx (List.map (mkV true [Lf.fi IntKind.u8, Lf.fi IntKind.u8]) m)), (9, AV.ptr 144 0 0 0), (11, AV.ptr 176 0 0 0), (12, AV.int IntKind.i64 i), (13, AV.str s), (15, AV.str t), (17, AV.int IntKind.i64 k), (18, AV.bool (decide ((↑d3.toNat : Int) = (↑d4.toNat : Int)))), (19, AV.int IntKind.i64 (IntKind.i64.wrap (n + 1)))], bs := [(144, { v := 0, k := BK.box, fz := false, sz := 0, es := [AV.slc false (List.map (mkV false [Lf.fs]) La), AV.slc true [], AV.int IntKind.i64 0, AV.bool false] }), (176, { v := 0, k := BK.box, fz := false, sz := 0, es := [AV.slc false (List.map (mkV false [Lf.fs]) Lx), AV.slc true [], AV.int IntKind.i64 0, AV.bool false] })], df := [] })) none) none)
        (some (Sum.inl { fr := [(1, AV.slc mx (List.map (mkV true [Lf.fi IntKind.u8, Lf.fi IntKind.u8]) m)), (9, AV.ptr 144 0 0 0), (11, AV.ptr 176 0 0 0), (12, AV.int IntKind.i64 i), (13, AV.str s), (15, AV.str t), (17, AV.int IntKind.i64 k), (18, AV.bool false), (19, AV.int IntKind.i64 (IntKind.i64.wrap (n + 1)))], bs := [(144, { v := 0, k := BK.box, fz := false, sz := 0, es := [AV.slc false (List.map (mkV false [Lf.fs]) La), AV.slc true [], AV.int IntKind.i64 0, AV.bool false] }), (176, { v := 0, k := BK.box, fz := false, sz := 0, es := [AV.slc false (List.map (mkV false [Lf.fs]) Lx), AV.slc true [], AV.int IntKind.i64 0, AV.bool false] })], df := [] }))))
  (some (Sum.inr (Ex.exit 8, { fr := [(1, AV.slc mx (List.map (mkV true [Lf.fi IntKind.u8, Lf.fi IntKind.u8]) m)), (9, AV.ptr 144 0 0 0), (11, AV.ptr 176 0 0 0), (12, AV.int IntKind.i64 i), (13, AV.str s), (15, AV.str t), (17, AV.int IntKind.i64 k), (18, AV.bool one)], bs := [(144, { v := 0, k := BK.box, fz := false, sz := 0, es := [AV.slc false (List.map (mkV false [Lf.fs]) La), AV.slc true [], AV.int IntKind.i64 0, AV.bool false] }), (176, { v := 0, k := BK.box, fz := false, sz := 0, es := [AV.slc false (List.map (mkV false [Lf.fs]) Lx), AV.slc true [], AV.int IntKind.i64 0, AV.bool false] })], df := [] })))
theorem dl8_s_w (mx : Bool) (m : List Row2) (La : List (List UInt8)) (Lx : List (List UInt8)) (i : Int) (s : List UInt8) (t : List UInt8) (k : Int) (one : Bool) (n : Int) : dl8_s mx m La Lx i s t k one n = dl8_s_r mx m La Lx i s t k one n := by kernel_rfl

def dl8E (mx : Bool) (m : List Row2) (La Lx : List (List UInt8)) (i : Int) (s t : List UInt8) (k : Int) (one : Bool) : Ex × St := (.exit 8, { fr := [(1, .slc mx (m.map (mkV true Row2_fs))), (9, .ptr 144 0 0 0), (11, .ptr 176 0 0 0), (12, .int .i64 i), (13, .str s), (15, .str t), (17, .int .i64 k), (18, .bool one)], bs := [(144, dskB false La true []), (176, dskB false Lx true [])], df := [] })
/-- Was that byte written by one of these? -/
def anyM (m : List Row2) (i : Int) (s : List UInt8) (k : Int) : Bool := m.any fun r => decide (Int.tmod r.1 5 = i) && decide ((secQ r.2).getD k.toNat 0 = s.getD k.toNat 0)
abbrev Dl8D : Type := (Bool × List Row2) × List (List UInt8) × List (List UInt8) × Int × List UInt8 × List UInt8 × Int × Bool
def dl8H (d : Dl8D) : St := dl8 d.1.1 d.1.2 d.2.1 d.2.2.1 d.2.2.2.1 d.2.2.2.2.1 d.2.2.2.2.2.1 d.2.2.2.2.2.2.1 d.2.2.2.2.2.2.2 0
/-- A byte of a sector. -/
def dl8Pre (d : Dl8D) : Prop := d.1.2.length ≤ 10 ∧ (∀ r ∈ d.1.2, (0 : Int) ≤ r.1) ∧ d.2.2.2.2.1.length = 32 ∧ 0 ≤ d.2.2.2.2.2.2.1 ∧ d.2.2.2.2.2.2.1 < 32
noncomputable def dl8L : LP := LP.of dl8H dl8Pre fun d => .leaf (dl8E d.1.1 d.1.2 d.2.1 d.2.2.1 d.2.2.2.1 d.2.2.2.2.1 d.2.2.2.2.2.1 d.2.2.2.2.2.2.1 (d.2.2.2.2.2.2.2 || anyM d.1.2 d.2.2.2.1 d.2.2.2.2.1 d.2.2.2.2.2.2.1))
noncomputable def dl8P : LPs := LPs.add dl2P 4 8 dl8L
def dl6 (mx : Bool) (m : List Row2) (La Lx : List (List UInt8)) (i : Int) (s t : List UInt8) (k : Int) : St := { fr := [(1, .slc mx (m.map (mkV true Row2_fs))), (9, .ptr 144 0 0 0), (11, .ptr 176 0 0 0), (12, .int .i64 i), (13, .str s), (15, .str t), (17, .int .i64 k)], bs := [(144, dskB false La true []), (176, dskB false Lx true [])], df := [] }
noncomputable def dl6_s (mx : Bool) (m : List Row2) (La Lx : List (List UInt8)) (i : Int) (s t : List UInt8) (k : Int) : Option (St ⊕ (Ex × St)) := stepK Try.prog cfg B7 dl8P 4 6 (dl6 mx m La Lx i s t k)
noncomputable def dl6_s_r (mx : Bool) (m : List Row2) (La : List (List UInt8)) (Lx : List (List UInt8)) (i : Int) (s : List UInt8) (t : List UInt8) (k : Int) : Option (St ⊕ Ex × St) :=
  bK (decide (k < 32))
  (bK (decide (0 ≤ k))
    (oK s[k.toNat]? fun (d0 : UInt8) =>
      bK (decide (0 ≤ k))
        (oK t[k.toNat]? fun (d1 : UInt8) =>
          oK (dl8L.dec { fr := [(1, AV.slc mx (List.map (mkV true [Lf.fi IntKind.u8, Lf.fi IntKind.u8]) m)), (9, AV.ptr 144 0 0 0), (11, AV.ptr 176 0 0 0), (12, AV.int IntKind.i64 i), (13, AV.str s), (15, AV.str t), (17, AV.int IntKind.i64 k), (18, AV.bool (decide ((↑d0.toNat : Int) = (↑d1.toNat : Int)))), (19, AV.int IntKind.i64 0)], bs := [(144, { v := 0, k := BK.box, fz := false, sz := 0, es := [AV.slc false (List.map (mkV false [Lf.fs]) La), AV.slc true [], AV.int IntKind.i64 0, AV.bool false] }), (176, { v := 0, k := BK.box, fz := false, sz := 0, es := [AV.slc false (List.map (mkV false [Lf.fs]) Lx), AV.slc true [], AV.int IntKind.i64 0, AV.bool false] })], df := [] }) fun (d2 : (Bool × List (Int × Int)) × List (List UInt8) × List (List UInt8) × Int × List UInt8 × List UInt8 × Int × Bool) =>
            bK (!(d2.snd.snd.snd.snd.snd.snd.snd || anyM d2.fst.snd d2.snd.snd.snd.fst d2.snd.snd.snd.snd.fst d2.snd.snd.snd.snd.snd.snd.fst)) (some (Sum.inr (Ex.ret, { fr := [(1, AV.slc d2.fst.fst (List.map (mkV true [Lf.fi IntKind.u8, Lf.fi IntKind.u8]) d2.fst.snd)), (6, AV.bool false), (9, AV.ptr 144 0 0 0), (11, AV.ptr 176 0 0 0), (12, AV.int IntKind.i64 d2.snd.snd.snd.fst)], bs := [(144, { v := 0, k := BK.box, fz := false, sz := 0, es := [AV.slc false (List.map (mkV false [Lf.fs]) d2.snd.fst), AV.slc true [], AV.int IntKind.i64 0, AV.bool false] }), (176, { v := 0, k := BK.box, fz := false, sz := 0, es := [AV.slc false (List.map (mkV false [Lf.fs]) d2.snd.snd.fst), AV.slc true [], AV.int IntKind.i64 0, AV.bool false] })], df := [] }))) (some (Sum.inl { fr := [(1, AV.slc d2.fst.fst (List.map (mkV true [Lf.fi IntKind.u8, Lf.fi IntKind.u8]) d2.fst.snd)), (9, AV.ptr 144 0 0 0), (11, AV.ptr 176 0 0 0), (12, AV.int IntKind.i64 d2.snd.snd.snd.fst), (13, AV.str d2.snd.snd.snd.snd.fst), (15, AV.str d2.snd.snd.snd.snd.snd.fst), (17, AV.int IntKind.i64 (IntKind.i64.wrap (d2.snd.snd.snd.snd.snd.snd.fst + 1)))], bs := [(144, { v := 0, k := BK.box, fz := false, sz := 0, es := [AV.slc false (List.map (mkV false [Lf.fs]) d2.snd.fst), AV.slc true [], AV.int IntKind.i64 0, AV.bool false] }), (176, { v := 0, k := BK.box, fz := false, sz := 0, es := [AV.slc false (List.map (mkV false [Lf.fs]) d2.snd.snd.fst), AV.slc true [], AV.int IntKind.i64 0, AV.bool false] })], df := [] })))
        none)
    none)
  (some (Sum.inr (Ex.exit 6, { fr := [(1, AV.slc mx (List.map (mkV true [Lf.fi IntKind.u8, Lf.fi IntKind.u8]) m)), (9, AV.ptr 144 0 0 0), (11, AV.ptr 176 0 0 0), (12, AV.int IntKind.i64 i)], bs := [(144, { v := 0, k := BK.box, fz := false, sz := 0, es := [AV.slc false (List.map (mkV false [Lf.fs]) La), AV.slc true [], AV.int IntKind.i64 0, AV.bool false] }), (176, { v := 0, k := BK.box, fz := false, sz := 0, es := [AV.slc false (List.map (mkV false [Lf.fs]) Lx), AV.slc true [], AV.int IntKind.i64 0, AV.bool false] })], df := [] })))
theorem dl6_s_w (mx : Bool) (m : List Row2) (La : List (List UInt8)) (Lx : List (List UInt8)) (i : Int) (s : List UInt8) (t : List UInt8) (k : Int) : dl6_s mx m La Lx i s t k = dl6_s_r mx m La Lx i s t k := by kernel_rfl

def dl6E (mx : Bool) (m : List Row2) (La Lx : List (List UInt8)) (i : Int) : Ex × St := (.exit 6, { fr := [(1, .slc mx (m.map (mkV true Row2_fs))), (9, .ptr 144 0 0 0), (11, .ptr 176 0 0 0), (12, .int .i64 i)], bs := [(144, dskB false La true []), (176, dskB false Lx true [])], df := [] })
abbrev Dl6D : Type := (Bool × List Row2) × List (List UInt8) × List (List UInt8) × Int × List UInt8 × List UInt8
def dl6H (d : Dl6D) : St := dl6 d.1.1 d.1.2 d.2.1 d.2.2.1 d.2.2.2.1 d.2.2.2.2.1 d.2.2.2.2.2 0
/-- Each byte is one of the two. -/
def dl6Pre (d : Dl6D) : Prop := d.1.2.length ≤ 10 ∧ (∀ r ∈ d.1.2, (0 : Int) ≤ r.1) ∧ d.2.2.2.2.1.length = 32 ∧ d.2.2.2.2.2.length = 32 ∧ ∀ k : Nat, k < 32 → d.2.2.2.2.1.getD k 0 = d.2.2.2.2.2.getD k 0 ∨ anyM d.1.2 d.2.2.2.1 d.2.2.2.2.1 k = true
noncomputable def dl6L : LP := LP.of dl6H dl6Pre fun d => .leaf (dl6E d.1.1 d.1.2 d.2.1 d.2.2.1 d.2.2.2.1)
noncomputable def dl6P : LPs := LPs.add dl8P 4 6 dl6L
def dl4 (mx : Bool) (m : List Row2) (La Lx : List (List UInt8)) (i : Int) : St := { fr := [(1, .slc mx (m.map (mkV true Row2_fs))), (9, .ptr 144 0 0 0), (11, .ptr 176 0 0 0), (12, .int .i64 i)], bs := [(144, dskB false La true []), (176, dskB false Lx true [])], df := [] }
noncomputable def dl4_s (mx : Bool) (m : List Row2) (La Lx : List (List UInt8)) (i : Int) : Option (St ⊕ (Ex × St)) := stepK Try.prog cfg B7 dl6P 4 4 (dl4 mx m La Lx i)
noncomputable def dl4_s_r (mx : Bool) (m : List Row2) (La : List (List UInt8)) (Lx : List (List UInt8)) (i : Int) : Option (St ⊕ Ex × St) :=
  bK (decide (i < 5))
  (oK (reaS.dec [AV.agg [AV.slc false (List.map (mkV false [Lf.fs]) Lx), AV.slc true [], AV.int IntKind.i64 0, AV.bool false], AV.int IntKind.i64 i] []) fun (d0 : (Bool × List (List UInt8)) × (Bool × List (Int × List UInt8)) × Int × Bool × Int) =>
    oK (reaS.dec [AV.agg [AV.slc false (List.map (mkV false [Lf.fs]) La), AV.slc true [], AV.int IntKind.i64 0, AV.bool false], AV.int IntKind.i64 i] []) fun (d1 : (Bool × List (List UInt8)) × (Bool × List (Int × List UInt8)) × Int × Bool × Int) =>
      bK (!(reaQ d0.fst.snd d0.snd.fst.snd d0.snd.snd.snd.fst d0.snd.snd.snd.snd).snd) (some (Sum.inr (Ex.ret, { fr := [(6, AV.bool false), (11, AV.ptr 176 0 0 0)], bs := [(176, { v := 0, k := BK.box, fz := false, sz := 0, es := [AV.slc false (List.map (mkV false [Lf.fs]) Lx), AV.slc true [], AV.int IntKind.i64 0, AV.bool false] })], df := [] })))
        (bK (!(reaQ d1.fst.snd d1.snd.fst.snd d1.snd.snd.snd.fst d1.snd.snd.snd.snd).snd) (some (Sum.inr (Ex.ret, { fr := [(6, AV.bool false), (11, AV.ptr 176 0 0 0)], bs := [(176, { v := 0, k := BK.box, fz := false, sz := 0, es := [AV.slc false (List.map (mkV false [Lf.fs]) Lx), AV.slc true [], AV.int IntKind.i64 0, AV.bool false] })], df := [] })))
          (bK (!decide ((↑(List.length (reaQ d0.fst.snd d0.snd.fst.snd d0.snd.snd.snd.fst d0.snd.snd.snd.snd).fst) : Int) = 32)) (some (Sum.inr (Ex.ret, { fr := [(6, AV.bool false), (11, AV.ptr 176 0 0 0)], bs := [(176, { v := 0, k := BK.box, fz := false, sz := 0, es := [AV.slc false (List.map (mkV false [Lf.fs]) Lx), AV.slc true [], AV.int IntKind.i64 0, AV.bool false] })], df := [] })))
            (bK (!decide ((↑(List.length (reaQ d1.fst.snd d1.snd.fst.snd d1.snd.snd.snd.fst d1.snd.snd.snd.snd).fst) : Int) = 32)) (some (Sum.inr (Ex.ret, { fr := [(6, AV.bool false), (11, AV.ptr 176 0 0 0)], bs := [(176, { v := 0, k := BK.box, fz := false, sz := 0, es := [AV.slc false (List.map (mkV false [Lf.fs]) Lx), AV.slc true [], AV.int IntKind.i64 0, AV.bool false] })], df := [] })))
              (oK (dl6L.dec { fr := [(1, AV.slc mx (List.map (mkV true [Lf.fi IntKind.u8, Lf.fi IntKind.u8]) m)), (9, AV.ptr 144 0 0 0), (11, AV.ptr 176 0 0 0), (12, AV.int IntKind.i64 i), (13, AV.str (reaQ d0.fst.snd d0.snd.fst.snd d0.snd.snd.snd.fst d0.snd.snd.snd.snd).fst), (15, AV.str (reaQ d1.fst.snd d1.snd.fst.snd d1.snd.snd.snd.fst d1.snd.snd.snd.snd).fst), (17, AV.int IntKind.i64 0)], bs := [(144, { v := 0, k := BK.box, fz := false, sz := 0, es := [AV.slc false (List.map (mkV false [Lf.fs]) La), AV.slc true [], AV.int IntKind.i64 0, AV.bool false] }), (176, { v := 0, k := BK.box, fz := false, sz := 0, es := [AV.slc false (List.map (mkV false [Lf.fs]) Lx), AV.slc true [], AV.int IntKind.i64 0, AV.bool false] })], df := [] }) fun (d2 : (Bool × List (Int × Int)) × List (List UInt8) × List (List UInt8) × Int × List UInt8 × List UInt8) => some (Sum.inl { fr := [(1, AV.slc d2.fst.fst (List.map (mkV true [Lf.fi IntKind.u8, Lf.fi IntKind.u8]) d2.fst.snd)), (9, AV.ptr 144 0 0 0), (11, AV.ptr 176 0 0 0), (12, AV.int IntKind.i64 (IntKind.i64.wrap (d2.snd.snd.snd.fst + 1)))], bs := [(144, { v := 0, k := BK.box, fz := false, sz := 0, es := [AV.slc false (List.map (mkV false [Lf.fs]) d2.snd.fst), AV.slc true [], AV.int IntKind.i64 0, AV.bool false] }), (176, { v := 0, k := BK.box, fz := false, sz := 0, es := [AV.slc false (List.map (mkV false [Lf.fs]) d2.snd.snd.fst), AV.slc true [], AV.int IntKind.i64 0, AV.bool false] })], df := [] }))))))
  (some (Sum.inr (Ex.exit 4, { fr := [(11, AV.ptr 176 0 0 0)], bs := [(176, { v := 0, k := BK.box, fz := false, sz := 0, es := [AV.slc false (List.map (mkV false [Lf.fs]) Lx), AV.slc true [], AV.int IntKind.i64 0, AV.bool false] })], df := [] })))
theorem dl4_s_w (mx : Bool) (m : List Row2) (La : List (List UInt8)) (Lx : List (List UInt8)) (i : Int) : dl4_s mx m La Lx i = dl4_s_r mx m La Lx i := by kernel_rfl

theorem dla4 : At 0 (codeOf Try.prog 4) 4 (.loop (bodyAt Try.prog 4 4)) := at_body dlo (by rw [dll]; decide)
theorem dla6 : At 0 (codeOf Try.prog 4) 6 (.loop (bodyAt Try.prog 4 6)) := at_body dlo (by rw [dll]; decide)
theorem dla8 : At 0 (codeOf Try.prog 4) 8 (.loop (bodyAt Try.prog 4 8)) := at_body dlo (by rw [dll]; decide)
theorem getQ {R : Type} {l : List UInt8} {k : Int} (h0 : 0 ≤ k) (h : k < (l.length : Int)) {f : UInt8 → Option R} {Q : Option R → Prop} (hz : Q (f (l.getD k.toNat 0))) : Q (oK l[k.toNat]? f) := by
  have hi : k.toNat < l.length := by omega
  refine oK_of (a := l.getD k.toNat 0) ?_ hz
  rw [List.getD, List.getElem?_eq_getElem hi]; rfl
theorem u8_eq (a b : UInt8) : decide ((a.toNat : Int) = (b.toNat : Int)) = decide (a = b) := by
  by_cases h : a = b
  · subst h; simp
  · have : ¬ ((a.toNat : Int) = (b.toNat : Int)) := fun e => h (UInt8.toNat_inj.1 (by omega))
    simp [h, this]
theorem dl8_step (mx : Bool) (m : List Row2) (La Lx : List (List UInt8)) (i : Int) (s t : List UInt8) (k : Int) (one : Bool) (n : Nat) (hn : n < m.length) (hm : m.length ≤ 10) (hr : ∀ r ∈ m, (0 : Int) ≤ r.1) (hs : s.length = 32) (hk : 0 ≤ k) (hk2 : k < 32) :
    dl8_s_r mx m La Lx i s t k one n = some (.inl (dl8 mx m La Lx i s t k (one || (decide (Int.tmod m[n].1 5 = i) && decide ((secQ m[n].2).getD k.toNat 0 = s.getD k.toNat 0))) ((n : Int) + 1))) := by
  unfold dl8_s_r
  have e1 : IntKind.i64.wrap ((n : Int) + 1) = (n : Int) + 1 := w64 (by omega) (by omega)
  have ht := wM_t (hr _ (List.getElem_mem hn))
  rw [e1]
  have at_ : ∀ {Q : Option (St ⊕ (Ex × St)) → Prop} {k : Row2 → Option (St ⊕ (Ex × St))}, Q (k m[n]) → Q (oK (elemAt true Row2_fs (m.map (mkV true Row2_fs)) n) k) := fun hk => oK_atq (fs := Row2_fs) (0, 0) (by omega) (by simpa using hn) (by rw [Int.toNat_natCast, getD_at hn]; exact hk)
  refine bK_tq (Q := fun z => z = _) (by simp; omega) ?_
  cases one with
  | true => exact bK_tq (Q := fun z => z = _) rfl rfl
  | false =>
    refine bK_fq (Q := fun z => z = _) rfl (at_ (Q := fun z => z = _) ?_)
    rw [w64 (n := Int.tmod m[n].1 5) (by omega) (by omega), Bool.false_or]
    by_cases hc : Int.tmod m[n].1 5 = i
    · rw [decide_eq_true hc, Bool.true_and]
      refine bK_tq (Q := fun z => z = _) rfl (at_ (Q := fun z => z = _) (oK_fsq (Q := fun z => z = _) secS m[n].2 trivial ?_))
      have hb := secQ_len m[n].2
      refine bK_tq (Q := fun z => z = _) (decide_eq_true hk) (getQ (Q := fun z => z = _) hk (by rw [hb]; exact hk2) (bK_tq (Q := fun z => z = _) (decide_eq_true hk) (getQ (Q := fun z => z = _) hk (by rw [hs]; exact hk2) ?_)))
      rw [u8_eq]
      rfl
    · rw [decide_eq_false hc, Bool.false_and]
      exact bK_fq (Q := fun z => z = _) rfl rfl
theorem anyM_at (m : List Row2) (i : Int) (s : List UInt8) (k : Int) (n : Nat) (h : n < m.length) : anyM (m.drop n) i s k = ((decide (Int.tmod m[n].1 5 = i) && decide ((secQ m[n].2).getD k.toNat 0 = s.getD k.toNat 0)) || anyM (m.drop (n + 1)) i s k) := by
  rw [List.drop_eq_getElem_cons h]; rfl
theorem dl8_run (mx : Bool) (m : List Row2) (La Lx : List (List UInt8)) (i : Int) (s t : List UInt8) (k : Int) (hm : m.length ≤ 10) (hr : ∀ r ∈ m, (0 : Int) ≤ r.1) (hs : s.length = 32) (hk : 0 ≤ k) (hk2 : k < 32) : ∀ (j n : Nat), n + j = m.length → ∀ (one : Bool) (fu : Nat), j < fu → Runs' Try.prog cfg B7 4 8 fu (dl8 mx m La Lx i s t k one n) (dl8E mx m La Lx i s t k (one || anyM (m.drop n) i s k))
  | 0, n, hn, one, fu + 1, hf => by
    refine Runs'.done (lp := LP0) LPok.none dla8 ((dl8_s_w mx m La Lx i s t k one n).trans ?_)
    unfold dl8_s_r
    rw [bK_neg (by simp; omega), List.drop_eq_nil_of_le (by omega)]
    have : (one || anyM [] i s k) = one := by cases one <;> rfl
    rw [this]
    rfl
  | j + 1, n, hn, one, fu + 1, hf => by
    have hlt : n < m.length := by omega
    rw [anyM_at m i s k n hlt, ← Bool.or_assoc]
    exact Runs'.step (lp := LP0) LPok.none dla8 ((dl8_s_w mx m La Lx i s t k one n).trans (dl8_step mx m La Lx i s t k one n hlt hm hr hs hk hk2)) (dl8_run mx m La Lx i s t k hm hr hs hk hk2 j (n + 1) (by omega) _ fu (by omega))
theorem dl8P_ok : LPok Try.prog cfg B7 dl8P 4 := LPok.addH dl2P_ok dlo (by
  rintro ⟨⟨mx, m⟩, La, Lx, i, s, t, k, one⟩ ⟨h1, h2, h3, h4, h5⟩
  exact dl8_run mx m La Lx i s t k h1 h2 h3 h4 h5 m.length 0 (by omega) one rounds (by have : m.length ≤ 10 := h1; simp only [rounds]; omega))
theorem dl8H_inj (d d' : Dl8D) (h : dl8H d = dl8H d') : d = d' := by
  obtain ⟨⟨mx, m⟩, La, Lx, i, s, t, k, one⟩ := d
  obtain ⟨⟨mx', m'⟩, La', Lx', i', s', t', k', one'⟩ := d'
  simp only [dl8H, dl8, dskB, boxB, St.mk.injEq, List.cons.injEq, Prod.mk.injEq, AV.slc.injEq, AV.int.injEq, AV.str.injEq, AV.bool.injEq, Blk.mk.injEq, and_true, true_and] at h
  obtain ⟨⟨⟨h1, h2⟩, h3, h4, h5, h6, h7⟩, h8, h9⟩ := h
  rw [h1, map_inj (fs := Row2_fs) rfl h2, h3, h4, h5, h6, h7, map_inj (agg := false) (fs := [.fs]) rfl h8, map_inj (agg := false) (fs := [.fs]) rfl h9]
theorem dl6_step (mx : Bool) (m : List Row2) (La Lx : List (List UInt8)) (i : Int) (s t : List UInt8) (k : Nat) (hk : k < 32) (h : dl6Pre ((mx, m), La, Lx, i, s, t)) :
    dl6_s_r mx m La Lx i s t k = some (.inl (dl6 mx m La Lx i s t ((k : Int) + 1))) := by
  obtain ⟨h1, h2, h3, h4, h5⟩ := h
  have h3 : s.length = 32 := h3
  have h4 : t.length = 32 := h4
  unfold dl6_s_r
  have e1 : IntKind.i64.wrap ((k : Int) + 1) = (k : Int) + 1 := w64 (by omega) (by omega)
  have h0 : (0 : Int) ≤ (k : Int) := by omega
  refine bK_tq (Q := fun z => z = _) (decide_eq_true (by omega)) (bK_tq (Q := fun z => z = _) (decide_eq_true h0) (getQ (Q := fun z => z = _) h0 (by rw [h3]; omega) (bK_tq (Q := fun z => z = _) (decide_eq_true h0) (getQ (Q := fun z => z = _) h0 (by rw [h4]; omega) ?_))))
  rw [u8_eq]
  refine oK_lpf (Q := fun z => z = _) dl8H_inj ((mx, m), La, Lx, i, s, t, (k : Int), decide (s.getD (k : Int).toNat 0 = t.getD (k : Int).toNat 0)) ⟨h1, h2, h3, h0, by show (k : Int) < 32; omega⟩ rfl ?_
  refine bK_fq (Q := fun z => z = _) ?_ ?_
  · show (!(decide (s.getD (k : Int).toNat 0 = t.getD (k : Int).toNat 0) || anyM m i s k)) = false
    rw [Int.toNat_natCast]
    rcases h5 k hk with h | h
    · have h : s.getD k 0 = t.getD k 0 := h
      rw [decide_eq_true h]; rfl
    · have h : anyM m i s k = true := h
      rw [h]; simp
  · show some (Sum.inl (St.mk [_, _, _, _, _, _, (17, .int .i64 (IntKind.i64.wrap ((k : Int) + 1)))] _ _)) = _
    rw [e1]
    rfl
theorem dl6_run (mx : Bool) (m : List Row2) (La Lx : List (List UInt8)) (i : Int) (s t : List UInt8) (h : dl6Pre ((mx, m), La, Lx, i, s, t)) : ∀ (j k : Nat), k + j = 32 → ∀ (fu : Nat), j < fu → Runs' Try.prog cfg B7 4 6 fu (dl6 mx m La Lx i s t k) (dl6E mx m La Lx i)
  | 0, k, hk, fu + 1, hf => by
    refine Runs'.done (lp := dl8P) dl8P_ok dla6 ((dl6_s_w mx m La Lx i s t k).trans ?_)
    unfold dl6_s_r
    rw [bK_neg (decide_eq_false (by omega))]
    rfl
  | j + 1, k, hk, fu + 1, hf => Runs'.step (lp := dl8P) dl8P_ok dla6 ((dl6_s_w mx m La Lx i s t k).trans (dl6_step mx m La Lx i s t k (by omega) h)) (dl6_run mx m La Lx i s t h j (k + 1) (by omega) fu (by omega))
theorem dl6P_ok : LPok Try.prog cfg B7 dl6P 4 := LPok.addH dl8P_ok dlo (by
  rintro ⟨⟨mx, m⟩, La, Lx, i, s, t⟩ h
  exact dl6_run mx m La Lx i s t h 32 0 (by omega) rounds (by simp only [rounds]; omega))
theorem dl6H_inj (d d' : Dl6D) (h : dl6H d = dl6H d') : d = d' := by
  obtain ⟨⟨mx, m⟩, La, Lx, i, s, t⟩ := d
  obtain ⟨⟨mx', m'⟩, La', Lx', i', s', t'⟩ := d'
  simp only [dl6H, dl6, dskB, boxB, St.mk.injEq, List.cons.injEq, Prod.mk.injEq, AV.slc.injEq, AV.int.injEq, AV.str.injEq, AV.bool.injEq, Blk.mk.injEq, and_true, true_and] at h
  obtain ⟨⟨⟨h1, h2⟩, h3, h4, h5⟩, h8, h9⟩ := h
  rw [h1, map_inj (fs := Row2_fs) rfl h2, h3, h4, h5, map_inj (agg := false) (fs := [.fs]) rfl h8, map_inj (agg := false) (fs := [.fs]) rfl h9]

end Go.Proofs.Ytlomiepgghlhbaa
