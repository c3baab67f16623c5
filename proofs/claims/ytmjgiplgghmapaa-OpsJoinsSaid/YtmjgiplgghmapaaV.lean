/- A part of the proof: contracts of functions. -/
import Derived.Test.YtmjgiplgghmapaaU
import Derived.Test.YtmjgiplgghmapaaAbAny

set_option linter.unusedVariables false
set_option linter.unusedSimpArgs false
set_option maxRecDepth 100000
namespace Go.Proofs.Ytmjgiplgghmapaa
open Go Go.Ab
set_option maxHeartbeats 8000000
def oj00h (n : Int) (x y : List Int) (i : Int) : St := { fr := [(2, .int .u8 n), (9, .sref 448 0 0 0), (10, .slc x.isEmpty (x.map (mkV false [.fi .u8]))), (11, .slc y.isEmpty (y.map (mkV false [.fi .u8]))), (12, .sref 592 0 0 0), (13, .int .i64 i)], bs := [(448, { v := 0, k := .row, fz := false, sz := 9, es := [] }), (592, { v := 0, k := .row, fz := false, sz := 1, es := [] })], df := [] }
noncomputable def oj00_s (n : Int) (x y : List Int) (i : Int) : Option (St ⊕ (Ex × St)) := stepK Try.prog cfg Lw5 LP0 5 0 (oj00h n x y i)
noncomputable def oj00_s_r (n : Int) (x : List Int) (y : List Int) (i : Int) : Option (St ⊕ Ex × St) :=
  bK (decide (i < IntKind.i64.wrap (n.tmod 9))) (some (Sum.inl { fr := [(2, AV.int IntKind.u8 n), (9, AV.sref 448 0 0 0), (10, AV.slc x.isEmpty (List.map (mkV false [Lf.fi IntKind.u8]) x)), (11, AV.slc y.isEmpty (List.map (mkV false [Lf.fi IntKind.u8]) y)), (12, AV.sref 832 0 0 1), (13, AV.int IntKind.i64 (IntKind.i64.wrap (i + 1)))], bs := [(448, { v := 0, k := BK.row, fz := false, sz := 9, es := [] }), (592, { v := 0, k := BK.dead, fz := false, sz := 1, es := [] }), (832, { v := 0, k := BK.row, fz := false, sz := 1, es := [AV.int IntKind.u8 (IntKind.u8.wrap (IntKind.i64.wrap (15 * i)))] })], df := [] })) (some (Sum.inr (Ex.exit 0, { fr := [(9, AV.sref 448 0 0 0), (10, AV.slc x.isEmpty (List.map (mkV false [Lf.fi IntKind.u8]) x)), (11, AV.slc y.isEmpty (List.map (mkV false [Lf.fi IntKind.u8]) y)), (12, AV.sref 592 0 0 0)], bs := [(448, { v := 0, k := BK.row, fz := false, sz := 9, es := [] }), (592, { v := 0, k := BK.row, fz := false, sz := 1, es := [] })], df := [] })))
theorem oj00_s_w (n : Int) (x : List Int) (y : List Int) (i : Int) : oj00_s n x y i = oj00_s_r n x y i := by kernel_rfl

def oj00x (x y : List Int) : St := { fr := [(9, .sref 448 0 0 0), (10, .slc x.isEmpty (x.map (mkV false [.fi .u8]))), (11, .slc y.isEmpty (y.map (mkV false [.fi .u8]))), (12, .sref 592 0 0 0)], bs := [(448, { v := 0, k := .row, fz := false, sz := 9, es := [] }), (592, { v := 0, k := .row, fz := false, sz := 1, es := [] })], df := [] }
def oj02h (n : Int) (x y : List Int) (z : List Int) (i : Int) : St := { fr := [(2, .int .u8 n), (9, .sref 448 0 0 0), (10, .slc x.isEmpty (x.map (mkV false [.fi .u8]))), (11, .slc y.isEmpty (y.map (mkV false [.fi .u8]))), (12, .sref 832 0 0 (z.map (mkV false [.fi .u8])).length), (13, .int .i64 i)], bs := [(448, { v := 0, k := .row, fz := false, sz := 9, es := [] }), (592, { v := 0, k := .dead, fz := false, sz := 1, es := [] }), (832, { v := 0, k := .row, fz := false, sz := 1, es := z.map (mkV false [.fi .u8]) })], df := [] }
noncomputable def oj02_s (n : Int) (x y : List Int) (z : List Int) (i : Int) : Option (St ⊕ (Ex × St)) := stepK Try.prog cfg Lw5 LP0 5 0 (oj02h n x y z i)
noncomputable def oj02_s_r (n : Int) (x : List Int) (y : List Int) (z : List Int) (i : Int) : Option (St ⊕ Ex × St) :=
  bK (decide (i < IntKind.i64.wrap (n.tmod 9))) (bK (decide (0 + (List.map (mkV false [Lf.fi IntKind.u8]) z).length ≤ (List.map (mkV false [Lf.fi IntKind.u8]) z).length)) (bK (decide (0 = 0 ∧ (List.map (mkV false [Lf.fi IntKind.u8]) z).length = (List.map (mkV false [Lf.fi IntKind.u8]) z).length) && bytesFit Try.prog 5 ((List.map (mkV false [Lf.fi IntKind.u8]) z).length + 1)) (some (Sum.inl { fr := [(2, AV.int IntKind.u8 n), (9, AV.sref 448 0 0 0), (10, AV.slc x.isEmpty (List.map (mkV false [Lf.fi IntKind.u8]) x)), (11, AV.slc y.isEmpty (List.map (mkV false [Lf.fi IntKind.u8]) y)), (12, AV.sref 832 0 0 ((List.map (mkV false [Lf.fi IntKind.u8]) z).length + 1)), (13, AV.int IntKind.i64 (IntKind.i64.wrap (i + 1)))], bs := [(448, { v := 0, k := BK.row, fz := false, sz := 9, es := [] }), (592, { v := 0, k := BK.dead, fz := false, sz := 1, es := [] }), (832, { v := 0, k := BK.row, fz := false, sz := 1, es := List.take (List.map (mkV false [Lf.fi IntKind.u8]) z).length (List.map (mkV false [Lf.fi IntKind.u8]) z) ++ [AV.int IntKind.u8 (IntKind.u8.wrap (IntKind.i64.wrap (15 * i)))] })], df := [] })) none) none)
  (some (Sum.inr (Ex.exit 0, { fr := [(9, AV.sref 448 0 0 0), (10, AV.slc x.isEmpty (List.map (mkV false [Lf.fi IntKind.u8]) x)), (11, AV.slc y.isEmpty (List.map (mkV false [Lf.fi IntKind.u8]) y)), (12, AV.sref 832 0 0 (List.map (mkV false [Lf.fi IntKind.u8]) z).length)], bs := [(448, { v := 0, k := BK.row, fz := false, sz := 9, es := [] }), (592, { v := 0, k := BK.dead, fz := false, sz := 1, es := [] }), (832, { v := 0, k := BK.row, fz := false, sz := 1, es := List.map (mkV false [Lf.fi IntKind.u8]) z })], df := [] })))
theorem oj02_s_w (n : Int) (x : List Int) (y : List Int) (z : List Int) (i : Int) : oj02_s n x y z i = oj02_s_r n x y z i := by kernel_rfl

def oj02x (x y : List Int) (z : List Int) : St := { fr := [(9, .sref 448 0 0 0), (10, .slc x.isEmpty (x.map (mkV false [.fi .u8]))), (11, .slc y.isEmpty (y.map (mkV false [.fi .u8]))), (12, .sref 832 0 0 (z.map (mkV false [.fi .u8])).length)], bs := [(448, { v := 0, k := .row, fz := false, sz := 9, es := [] }), (592, { v := 0, k := .dead, fz := false, sz := 1, es := [] }), (832, { v := 0, k := .row, fz := false, sz := 1, es := z.map (mkV false [.fi .u8]) })], df := [] }
def oj10h (n : Int) (L : List Step_T) (x y : List Int) (i : Int) : St := { fr := [(2, .int .u8 n), (9, .sref 512 0 0 (L.map (mkV true Step_tfs)).length), (10, .slc x.isEmpty (x.map (mkV false [.fi .u8]))), (11, .slc y.isEmpty (y.map (mkV false [.fi .u8]))), (12, .sref 592 0 0 0), (13, .int .i64 i)], bs := [(448, { v := 0, k := .dead, fz := false, sz := 9, es := [] }), (512, { v := 0, k := .row, fz := false, sz := 9, es := L.map (mkV true Step_tfs) }), (592, { v := 0, k := .row, fz := false, sz := 1, es := [] })], df := [] }
noncomputable def oj10_s (n : Int) (L : List Step_T) (x y : List Int) (i : Int) : Option (St ⊕ (Ex × St)) := stepK Try.prog cfg Lw5 LP0 5 0 (oj10h n L x y i)
noncomputable def oj10_s_r (n : Int) (L : List Step_T) (x : List Int) (y : List Int) (i : Int) : Option (St ⊕ Ex × St) :=
  bK (decide (i < IntKind.i64.wrap (n.tmod 9))) (some (Sum.inl { fr := [(2, AV.int IntKind.u8 n), (9, AV.sref 512 0 0 (List.map (mkV true [Lf.fi IntKind.i64, Lf.fi IntKind.i64, Lf.fi IntKind.i64, Lf.fi IntKind.i64, Lf.fi IntKind.i64, Lf.fi IntKind.i64, Lf.fi IntKind.i64, Lf.fs, Lf.fl false I1_tfs]) L).length), (10, AV.slc x.isEmpty (List.map (mkV false [Lf.fi IntKind.u8]) x)), (11, AV.slc y.isEmpty (List.map (mkV false [Lf.fi IntKind.u8]) y)), (12, AV.sref 832 0 0 1), (13, AV.int IntKind.i64 (IntKind.i64.wrap (i + 1)))], bs := [(448, { v := 0, k := BK.dead, fz := false, sz := 9, es := [] }), (512, { v := 0, k := BK.row, fz := false, sz := 9, es := List.map (mkV true [Lf.fi IntKind.i64, Lf.fi IntKind.i64, Lf.fi IntKind.i64, Lf.fi IntKind.i64, Lf.fi IntKind.i64, Lf.fi IntKind.i64, Lf.fi IntKind.i64, Lf.fs, Lf.fl false I1_tfs]) L }), (592, { v := 0, k := BK.dead, fz := false, sz := 1, es := [] }), (832, { v := 0, k := BK.row, fz := false, sz := 1, es := [AV.int IntKind.u8 (IntKind.u8.wrap (IntKind.i64.wrap (15 * i)))] })], df := [] }))
  (some (Sum.inr (Ex.exit 0, { fr := [(9, AV.sref 512 0 0 (List.map (mkV true [Lf.fi IntKind.i64, Lf.fi IntKind.i64, Lf.fi IntKind.i64, Lf.fi IntKind.i64, Lf.fi IntKind.i64, Lf.fi IntKind.i64, Lf.fi IntKind.i64, Lf.fs, Lf.fl false I1_tfs]) L).length), (10, AV.slc x.isEmpty (List.map (mkV false [Lf.fi IntKind.u8]) x)), (11, AV.slc y.isEmpty (List.map (mkV false [Lf.fi IntKind.u8]) y)), (12, AV.sref 592 0 0 0)], bs := [(448, { v := 0, k := BK.dead, fz := false, sz := 9, es := [] }), (512, { v := 0, k := BK.row, fz := false, sz := 9, es := List.map (mkV true [Lf.fi IntKind.i64, Lf.fi IntKind.i64, Lf.fi IntKind.i64, Lf.fi IntKind.i64, Lf.fi IntKind.i64, Lf.fi IntKind.i64, Lf.fi IntKind.i64, Lf.fs, Lf.fl false I1_tfs]) L }), (592, { v := 0, k := BK.row, fz := false, sz := 1, es := [] })], df := [] })))
theorem oj10_s_w (n : Int) (L : List Step_T) (x : List Int) (y : List Int) (i : Int) : oj10_s n L x y i = oj10_s_r n L x y i := by kernel_rfl

def oj10x (L : List Step_T) (x y : List Int) : St := { fr := [(9, .sref 512 0 0 (L.map (mkV true Step_tfs)).length), (10, .slc x.isEmpty (x.map (mkV false [.fi .u8]))), (11, .slc y.isEmpty (y.map (mkV false [.fi .u8]))), (12, .sref 592 0 0 0)], bs := [(448, { v := 0, k := .dead, fz := false, sz := 9, es := [] }), (512, { v := 0, k := .row, fz := false, sz := 9, es := L.map (mkV true Step_tfs) }), (592, { v := 0, k := .row, fz := false, sz := 1, es := [] })], df := [] }
def oj12h (n : Int) (L : List Step_T) (x y : List Int) (z : List Int) (i : Int) : St := { fr := [(2, .int .u8 n), (9, .sref 512 0 0 (L.map (mkV true Step_tfs)).length), (10, .slc x.isEmpty (x.map (mkV false [.fi .u8]))), (11, .slc y.isEmpty (y.map (mkV false [.fi .u8]))), (12, .sref 832 0 0 (z.map (mkV false [.fi .u8])).length), (13, .int .i64 i)], bs := [(448, { v := 0, k := .dead, fz := false, sz := 9, es := [] }), (512, { v := 0, k := .row, fz := false, sz := 9, es := L.map (mkV true Step_tfs) }), (592, { v := 0, k := .dead, fz := false, sz := 1, es := [] }), (832, { v := 0, k := .row, fz := false, sz := 1, es := z.map (mkV false [.fi .u8]) })], df := [] }
noncomputable def oj12_s (n : Int) (L : List Step_T) (x y : List Int) (z : List Int) (i : Int) : Option (St ⊕ (Ex × St)) := stepK Try.prog cfg Lw5 LP0 5 0 (oj12h n L x y z i)
noncomputable def oj12_s_r (n : Int) (L : List Step_T) (x : List Int) (y : List Int) (z : List Int) (i : Int) : Option (St ⊕ Ex × St) :=
  bK (decide (i < IntKind.i64.wrap (n.tmod 9)))
  (bK (decide (0 + (List.map (mkV false [Lf.fi IntKind.u8]) z).length ≤ (List.map (mkV false [Lf.fi IntKind.u8]) z).length))
    (bK (decide (0 = 0 ∧ (List.map (mkV false [Lf.fi IntKind.u8]) z).length = (List.map (mkV false [Lf.fi IntKind.u8]) z).length) && bytesFit Try.prog 5 ((List.map (mkV false [Lf.fi IntKind.u8]) z).length + 1)) (some (Sum.inl { fr := [(2, AV.int IntKind.u8 n), (9, AV.sref 512 0 0 (List.map (mkV true [Lf.fi IntKind.i64, Lf.fi IntKind.i64, Lf.fi IntKind.i64, Lf.fi IntKind.i64, Lf.fi IntKind.i64, Lf.fi IntKind.i64, Lf.fi IntKind.i64, Lf.fs, Lf.fl false I1_tfs]) L).length), (10, AV.slc x.isEmpty (List.map (mkV false [Lf.fi IntKind.u8]) x)), (11, AV.slc y.isEmpty (List.map (mkV false [Lf.fi IntKind.u8]) y)), (12, AV.sref 832 0 0 ((List.map (mkV false [Lf.fi IntKind.u8]) z).length + 1)), (13, AV.int IntKind.i64 (IntKind.i64.wrap (i + 1)))], bs := [(448, { v := 0, k := BK.dead, fz := false, sz := 9, es := [] }), (512, { v := 0, k := BK.row, fz := false, sz := 9, es := List.map (mkV true [Lf.fi IntKind.i64, Lf.fi IntKind.i64, Lf.fi IntKind.i64, Lf.fi IntKind.i64, Lf.fi IntKind.i64, Lf.fi IntKind.i64, Lf.fi IntKind.i64, Lf.fs, Lf.fl false I1_tfs]) L }), (592, { v := 0, k := BK.dead, fz := false, sz := 1, es := [] }), (832, { v := 0, k := BK.row, fz := false, sz := 1, es := List.take (List.map (mkV false [Lf.fi IntKind.u8]) z).length (List.map (mkV false [Lf.fi IntKind.u8]) z) ++ [AV.int IntKind.u8 (IntKind.u8.wrap (IntKind.i64.wrap (15 * i)))] })], df := [] })) none) none)
  (some (Sum.inr (Ex.exit 0, { fr := [(9, AV.sref 512 0 0 (List.map (mkV true [Lf.fi IntKind.i64, Lf.fi IntKind.i64, Lf.fi IntKind.i64, Lf.fi IntKind.i64, Lf.fi IntKind.i64, Lf.fi IntKind.i64, Lf.fi IntKind.i64, Lf.fs, Lf.fl false I1_tfs]) L).length), (10, AV.slc x.isEmpty (List.map (mkV false [Lf.fi IntKind.u8]) x)), (11, AV.slc y.isEmpty (List.map (mkV false [Lf.fi IntKind.u8]) y)), (12, AV.sref 832 0 0 (List.map (mkV false [Lf.fi IntKind.u8]) z).length)], bs := [(448, { v := 0, k := BK.dead, fz := false, sz := 9, es := [] }), (512, { v := 0, k := BK.row, fz := false, sz := 9, es := List.map (mkV true [Lf.fi IntKind.i64, Lf.fi IntKind.i64, Lf.fi IntKind.i64, Lf.fi IntKind.i64, Lf.fi IntKind.i64, Lf.fi IntKind.i64, Lf.fi IntKind.i64, Lf.fs, Lf.fl false I1_tfs]) L }), (592, { v := 0, k := BK.dead, fz := false, sz := 1, es := [] }), (832, { v := 0, k := BK.row, fz := false, sz := 1, es := List.map (mkV false [Lf.fi IntKind.u8]) z })], df := [] })))
theorem oj12_s_w (n : Int) (L : List Step_T) (x : List Int) (y : List Int) (z : List Int) (i : Int) : oj12_s n L x y z i = oj12_s_r n L x y z i := by kernel_rfl

def oj12x (L : List Step_T) (x y : List Int) (z : List Int) : St := { fr := [(9, .sref 512 0 0 (L.map (mkV true Step_tfs)).length), (10, .slc x.isEmpty (x.map (mkV false [.fi .u8]))), (11, .slc y.isEmpty (y.map (mkV false [.fi .u8]))), (12, .sref 832 0 0 (z.map (mkV false [.fi .u8])).length)], bs := [(448, { v := 0, k := .dead, fz := false, sz := 9, es := [] }), (512, { v := 0, k := .row, fz := false, sz := 9, es := L.map (mkV true Step_tfs) }), (592, { v := 0, k := .dead, fz := false, sz := 1, es := [] }), (832, { v := 0, k := .row, fz := false, sz := 1, es := z.map (mkV false [.fi .u8]) })], df := [] }
def oj21h (n : Int) (L : List Step_T) (x y : List Int) (z : List Int) (i : Int) : St := { fr := [(2, .int .u8 n), (9, .sref 480 0 0 (L.map (mkV true Step_tfs)).length), (10, .slc x.isEmpty (x.map (mkV false [.fi .u8]))), (11, .slc y.isEmpty (y.map (mkV false [.fi .u8]))), (12, .sref 624 0 0 (z.map (mkV false [.fi .u8])).length), (13, .int .i64 i)], bs := [(448, { v := 0, k := .dead, fz := false, sz := 9, es := [] }), (480, { v := 0, k := .row, fz := false, sz := 9, es := L.map (mkV true Step_tfs) }), (592, { v := 0, k := .dead, fz := false, sz := 1, es := [] }), (624, { v := 0, k := .row, fz := false, sz := 1, es := z.map (mkV false [.fi .u8]) })], df := [] }
noncomputable def oj21_s (n : Int) (L : List Step_T) (x y : List Int) (z : List Int) (i : Int) : Option (St ⊕ (Ex × St)) := stepK Try.prog cfg Lw5 LP0 5 0 (oj21h n L x y z i)
noncomputable def oj21_s_r (n : Int) (L : List Step_T) (x : List Int) (y : List Int) (z : List Int) (i : Int) : Option (St ⊕ Ex × St) :=
  bK (decide (i < IntKind.i64.wrap (n.tmod 9)))
  (bK (decide (0 + (List.map (mkV false [Lf.fi IntKind.u8]) z).length ≤ (List.map (mkV false [Lf.fi IntKind.u8]) z).length))
    (bK (decide (0 = 0 ∧ (List.map (mkV false [Lf.fi IntKind.u8]) z).length = (List.map (mkV false [Lf.fi IntKind.u8]) z).length) && bytesFit Try.prog 5 ((List.map (mkV false [Lf.fi IntKind.u8]) z).length + 1)) (some (Sum.inl { fr := [(2, AV.int IntKind.u8 n), (9, AV.sref 480 0 0 (List.map (mkV true [Lf.fi IntKind.i64, Lf.fi IntKind.i64, Lf.fi IntKind.i64, Lf.fi IntKind.i64, Lf.fi IntKind.i64, Lf.fi IntKind.i64, Lf.fi IntKind.i64, Lf.fs, Lf.fl false I1_tfs]) L).length), (10, AV.slc x.isEmpty (List.map (mkV false [Lf.fi IntKind.u8]) x)), (11, AV.slc y.isEmpty (List.map (mkV false [Lf.fi IntKind.u8]) y)), (12, AV.sref 832 0 0 ((List.map (mkV false [Lf.fi IntKind.u8]) z).length + 1)), (13, AV.int IntKind.i64 (IntKind.i64.wrap (i + 1)))], bs := [(448, { v := 0, k := BK.dead, fz := false, sz := 9, es := [] }), (480, { v := 0, k := BK.row, fz := false, sz := 9, es := List.map (mkV true [Lf.fi IntKind.i64, Lf.fi IntKind.i64, Lf.fi IntKind.i64, Lf.fi IntKind.i64, Lf.fi IntKind.i64, Lf.fi IntKind.i64, Lf.fi IntKind.i64, Lf.fs, Lf.fl false I1_tfs]) L }), (592, { v := 0, k := BK.dead, fz := false, sz := 1, es := [] }), (624, { v := 0, k := BK.dead, fz := false, sz := 1, es := [] }), (832, { v := 0, k := BK.row, fz := false, sz := 1, es := List.take (List.map (mkV false [Lf.fi IntKind.u8]) z).length (List.map (mkV false [Lf.fi IntKind.u8]) z) ++ [AV.int IntKind.u8 (IntKind.u8.wrap (IntKind.i64.wrap (15 * i)))] })], df := [] })) none) none)
  (some (Sum.inr (Ex.exit 0, { fr := [(9, AV.sref 480 0 0 (List.map (mkV true [Lf.fi IntKind.i64, Lf.fi IntKind.i64, Lf.fi IntKind.i64, Lf.fi IntKind.i64, Lf.fi IntKind.i64, Lf.fi IntKind.i64, Lf.fi IntKind.i64, Lf.fs, Lf.fl false I1_tfs]) L).length), (10, AV.slc x.isEmpty (List.map (mkV false [Lf.fi IntKind.u8]) x)), (11, AV.slc y.isEmpty (List.map (mkV false [Lf.fi IntKind.u8]) y)), (12, AV.sref 624 0 0 (List.map (mkV false [Lf.fi IntKind.u8]) z).length)], bs := [(448, { v := 0, k := BK.dead, fz := false, sz := 9, es := [] }), (480, { v := 0, k := BK.row, fz := false, sz := 9, es := List.map (mkV true [Lf.fi IntKind.i64, Lf.fi IntKind.i64, Lf.fi IntKind.i64, Lf.fi IntKind.i64, Lf.fi IntKind.i64, Lf.fi IntKind.i64, Lf.fi IntKind.i64, Lf.fs, Lf.fl false I1_tfs]) L }), (592, { v := 0, k := BK.dead, fz := false, sz := 1, es := [] }), (624, { v := 0, k := BK.row, fz := false, sz := 1, es := List.map (mkV false [Lf.fi IntKind.u8]) z })], df := [] })))
theorem oj21_s_w (n : Int) (L : List Step_T) (x : List Int) (y : List Int) (z : List Int) (i : Int) : oj21_s n L x y z i = oj21_s_r n L x y z i := by kernel_rfl

def oj21x (L : List Step_T) (x y : List Int) (z : List Int) : St := { fr := [(9, .sref 480 0 0 (L.map (mkV true Step_tfs)).length), (10, .slc x.isEmpty (x.map (mkV false [.fi .u8]))), (11, .slc y.isEmpty (y.map (mkV false [.fi .u8]))), (12, .sref 624 0 0 (z.map (mkV false [.fi .u8])).length)], bs := [(448, { v := 0, k := .dead, fz := false, sz := 9, es := [] }), (480, { v := 0, k := .row, fz := false, sz := 9, es := L.map (mkV true Step_tfs) }), (592, { v := 0, k := .dead, fz := false, sz := 1, es := [] }), (624, { v := 0, k := .row, fz := false, sz := 1, es := z.map (mkV false [.fi .u8]) })], df := [] }
def oj23h (n : Int) (L : List Step_T) (x y : List Int) (z : List Int) (i : Int) : St := { fr := [(2, .int .u8 n), (9, .sref 480 0 0 (L.map (mkV true Step_tfs)).length), (10, .slc x.isEmpty (x.map (mkV false [.fi .u8]))), (11, .slc y.isEmpty (y.map (mkV false [.fi .u8]))), (12, .sref 832 0 0 (z.map (mkV false [.fi .u8])).length), (13, .int .i64 i)], bs := [(448, { v := 0, k := .dead, fz := false, sz := 9, es := [] }), (480, { v := 0, k := .row, fz := false, sz := 9, es := L.map (mkV true Step_tfs) }), (592, { v := 0, k := .dead, fz := false, sz := 1, es := [] }), (624, { v := 0, k := .dead, fz := false, sz := 1, es := [] }), (832, { v := 0, k := .row, fz := false, sz := 1, es := z.map (mkV false [.fi .u8]) })], df := [] }
noncomputable def oj23_s (n : Int) (L : List Step_T) (x y : List Int) (z : List Int) (i : Int) : Option (St ⊕ (Ex × St)) := stepK Try.prog cfg Lw5 LP0 5 0 (oj23h n L x y z i)
noncomputable def oj23_s_r (n : Int) (L : List Step_T) (x : List Int) (y : List Int) (z : List Int) (i : Int) : Option (St ⊕ Ex × St) :=
  bK (decide (i < IntKind.i64.wrap (n.tmod 9)))
  (bK (decide (0 + (List.map (mkV false [Lf.fi IntKind.u8]) z).length ≤ (List.map (mkV false [Lf.fi IntKind.u8]) z).length))
    (bK (decide (0 = 0 ∧ (List.map (mkV false [Lf.fi IntKind.u8]) z).length = (List.map (mkV false [Lf.fi IntKind.u8]) z).length) && bytesFit Try.prog 5 ((List.map (mkV false [Lf.fi IntKind.u8]) z).length + 1)) (some (Sum.inl { fr := [(2, AV.int IntKind.u8 n), (9, AV.sref 480 0 0 (List.map (mkV true [Lf.fi IntKind.i64, Lf.fi IntKind.i64, Lf.fi IntKind.i64, Lf.fi IntKind.i64, Lf.fi IntKind.i64, Lf.fi IntKind.i64, Lf.fi IntKind.i64, Lf.fs, Lf.fl false I1_tfs]) L).length), (10, AV.slc x.isEmpty (List.map (mkV false [Lf.fi IntKind.u8]) x)), (11, AV.slc y.isEmpty (List.map (mkV false [Lf.fi IntKind.u8]) y)), (12, AV.sref 832 0 0 ((List.map (mkV false [Lf.fi IntKind.u8]) z).length + 1)), (13, AV.int IntKind.i64 (IntKind.i64.wrap (i + 1)))], bs := [(448, { v := 0, k := BK.dead, fz := false, sz := 9, es := [] }), (480, { v := 0, k := BK.row, fz := false, sz := 9, es := List.map (mkV true [Lf.fi IntKind.i64, Lf.fi IntKind.i64, Lf.fi IntKind.i64, Lf.fi IntKind.i64, Lf.fi IntKind.i64, Lf.fi IntKind.i64, Lf.fi IntKind.i64, Lf.fs, Lf.fl false I1_tfs]) L }), (592, { v := 0, k := BK.dead, fz := false, sz := 1, es := [] }), (624, { v := 0, k := BK.dead, fz := false, sz := 1, es := [] }), (832, { v := 0, k := BK.row, fz := false, sz := 1, es := List.take (List.map (mkV false [Lf.fi IntKind.u8]) z).length (List.map (mkV false [Lf.fi IntKind.u8]) z) ++ [AV.int IntKind.u8 (IntKind.u8.wrap (IntKind.i64.wrap (15 * i)))] })], df := [] })) none) none)
  (some (Sum.inr (Ex.exit 0, { fr := [(9, AV.sref 480 0 0 (List.map (mkV true [Lf.fi IntKind.i64, Lf.fi IntKind.i64, Lf.fi IntKind.i64, Lf.fi IntKind.i64, Lf.fi IntKind.i64, Lf.fi IntKind.i64, Lf.fi IntKind.i64, Lf.fs, Lf.fl false I1_tfs]) L).length), (10, AV.slc x.isEmpty (List.map (mkV false [Lf.fi IntKind.u8]) x)), (11, AV.slc y.isEmpty (List.map (mkV false [Lf.fi IntKind.u8]) y)), (12, AV.sref 832 0 0 (List.map (mkV false [Lf.fi IntKind.u8]) z).length)], bs := [(448, { v := 0, k := BK.dead, fz := false, sz := 9, es := [] }), (480, { v := 0, k := BK.row, fz := false, sz := 9, es := List.map (mkV true [Lf.fi IntKind.i64, Lf.fi IntKind.i64, Lf.fi IntKind.i64, Lf.fi IntKind.i64, Lf.fi IntKind.i64, Lf.fi IntKind.i64, Lf.fi IntKind.i64, Lf.fs, Lf.fl false I1_tfs]) L }), (592, { v := 0, k := BK.dead, fz := false, sz := 1, es := [] }), (624, { v := 0, k := BK.dead, fz := false, sz := 1, es := [] }), (832, { v := 0, k := BK.row, fz := false, sz := 1, es := List.map (mkV false [Lf.fi IntKind.u8]) z })], df := [] })))
theorem oj23_s_w (n : Int) (L : List Step_T) (x : List Int) (y : List Int) (z : List Int) (i : Int) : oj23_s n L x y z i = oj23_s_r n L x y z i := by kernel_rfl

def oj23x (L : List Step_T) (x y : List Int) (z : List Int) : St := { fr := [(9, .sref 480 0 0 (L.map (mkV true Step_tfs)).length), (10, .slc x.isEmpty (x.map (mkV false [.fi .u8]))), (11, .slc y.isEmpty (y.map (mkV false [.fi .u8]))), (12, .sref 832 0 0 (z.map (mkV false [.fi .u8])).length)], bs := [(448, { v := 0, k := .dead, fz := false, sz := 9, es := [] }), (480, { v := 0, k := .row, fz := false, sz := 9, es := L.map (mkV true Step_tfs) }), (592, { v := 0, k := .dead, fz := false, sz := 1, es := [] }), (624, { v := 0, k := .dead, fz := false, sz := 1, es := [] }), (832, { v := 0, k := .row, fz := false, sz := 1, es := z.map (mkV false [.fi .u8]) })], df := [] }
def oj31h (n : Int) (L : List Step_T) (x y : List Int) (z : List Int) (i : Int) : St := { fr := [(2, .int .u8 n), (9, .sref 512 0 0 (L.map (mkV true Step_tfs)).length), (10, .slc x.isEmpty (x.map (mkV false [.fi .u8]))), (11, .slc y.isEmpty (y.map (mkV false [.fi .u8]))), (12, .sref 624 0 0 (z.map (mkV false [.fi .u8])).length), (13, .int .i64 i)], bs := [(448, { v := 0, k := .dead, fz := false, sz := 9, es := [] }), (480, { v := 0, k := .dead, fz := false, sz := 9, es := [] }), (512, { v := 0, k := .row, fz := false, sz := 9, es := L.map (mkV true Step_tfs) }), (592, { v := 0, k := .dead, fz := false, sz := 1, es := [] }), (624, { v := 0, k := .row, fz := false, sz := 1, es := z.map (mkV false [.fi .u8]) })], df := [] }
noncomputable def oj31_s (n : Int) (L : List Step_T) (x y : List Int) (z : List Int) (i : Int) : Option (St ⊕ (Ex × St)) := stepK Try.prog cfg Lw5 LP0 5 0 (oj31h n L x y z i)
noncomputable def oj31_s_r (n : Int) (L : List Step_T) (x : List Int) (y : List Int) (z : List Int) (i : Int) : Option (St ⊕ Ex × St) :=
  bK (decide (i < IntKind.i64.wrap (n.tmod 9)))
  (bK (decide (0 + (List.map (mkV false [Lf.fi IntKind.u8]) z).length ≤ (List.map (mkV false [Lf.fi IntKind.u8]) z).length))
    (bK (decide (0 = 0 ∧ (List.map (mkV false [Lf.fi IntKind.u8]) z).length = (List.map (mkV false [Lf.fi IntKind.u8]) z).length) && bytesFit Try.prog 5 ((List.map (mkV false [Lf.fi IntKind.u8]) z).length + 1))
      (some (Sum.inl { fr := [(2, AV.int IntKind.u8 n), (9, AV.sref 512 0 0 (List.map (mkV true [Lf.fi IntKind.i64, Lf.fi IntKind.i64, Lf.fi IntKind.i64, Lf.fi IntKind.i64, Lf.fi IntKind.i64, Lf.fi IntKind.i64, Lf.fi IntKind.i64, Lf.fs, Lf.fl false I1_tfs]) L).length), (10, AV.slc x.isEmpty (List.map (mkV false [Lf.fi IntKind.u8]) x)), (11, AV.slc y.isEmpty (List.map (mkV false [Lf.fi IntKind.u8]) y)), (12, AV.sref 832 0 0 ((List.map (mkV false [Lf.fi IntKind.u8]) z).length + 1)), (13, AV.int IntKind.i64 (IntKind.i64.wrap (i + 1)))], bs := [(448, { v := 0, k := BK.dead, fz := false, sz := 9, es := [] }), (480, { v := 0, k := BK.dead, fz := false, sz := 9, es := [] }), (512, { v := 0, k := BK.row, fz := false, sz := 9, es := List.map (mkV true [Lf.fi IntKind.i64, Lf.fi IntKind.i64, Lf.fi IntKind.i64, Lf.fi IntKind.i64, Lf.fi IntKind.i64, Lf.fi IntKind.i64, Lf.fi IntKind.i64, Lf.fs, Lf.fl false I1_tfs]) L }), (592, { v := 0, k := BK.dead, fz := false, sz := 1, es := [] }), (624, { v := 0, k := BK.dead, fz := false, sz := 1, es := [] }), (832, { v := 0, k := BK.row, fz := false, sz := 1, es := List.take (List.map (mkV false [Lf.fi IntKind.u8]) z).length (List.map (mkV false [Lf.fi IntKind.u8]) z) ++ [AV.int IntKind.u8 (IntKind.u8.wrap (IntKind.i64.wrap (15 * i)))] })], df := [] })) none)
    none)
  (some (Sum.inr (Ex.exit 0, { fr := [(9, AV.sref 512 0 0 (List.map (mkV true [Lf.fi IntKind.i64, Lf.fi IntKind.i64, Lf.fi IntKind.i64, Lf.fi IntKind.i64, Lf.fi IntKind.i64, Lf.fi IntKind.i64, Lf.fi IntKind.i64, Lf.fs, Lf.fl false I1_tfs]) L).length), (10, AV.slc x.isEmpty (List.map (mkV false [Lf.fi IntKind.u8]) x)), (11, AV.slc y.isEmpty (List.map (mkV false [Lf.fi IntKind.u8]) y)), (12, AV.sref 624 0 0 (List.map (mkV false [Lf.fi IntKind.u8]) z).length)], bs := [(448, { v := 0, k := BK.dead, fz := false, sz := 9, es := [] }), (480, { v := 0, k := BK.dead, fz := false, sz := 9, es := [] }), (512, { v := 0, k := BK.row, fz := false, sz := 9, es := List.map (mkV true [Lf.fi IntKind.i64, Lf.fi IntKind.i64, Lf.fi IntKind.i64, Lf.fi IntKind.i64, Lf.fi IntKind.i64, Lf.fi IntKind.i64, Lf.fi IntKind.i64, Lf.fs, Lf.fl false I1_tfs]) L }), (592, { v := 0, k := BK.dead, fz := false, sz := 1, es := [] }), (624, { v := 0, k := BK.row, fz := false, sz := 1, es := List.map (mkV false [Lf.fi IntKind.u8]) z })], df := [] })))
theorem oj31_s_w (n : Int) (L : List Step_T) (x : List Int) (y : List Int) (z : List Int) (i : Int) : oj31_s n L x y z i = oj31_s_r n L x y z i := by kernel_rfl

def oj31x (L : List Step_T) (x y : List Int) (z : List Int) : St := { fr := [(9, .sref 512 0 0 (L.map (mkV true Step_tfs)).length), (10, .slc x.isEmpty (x.map (mkV false [.fi .u8]))), (11, .slc y.isEmpty (y.map (mkV false [.fi .u8]))), (12, .sref 624 0 0 (z.map (mkV false [.fi .u8])).length)], bs := [(448, { v := 0, k := .dead, fz := false, sz := 9, es := [] }), (480, { v := 0, k := .dead, fz := false, sz := 9, es := [] }), (512, { v := 0, k := .row, fz := false, sz := 9, es := L.map (mkV true Step_tfs) }), (592, { v := 0, k := .dead, fz := false, sz := 1, es := [] }), (624, { v := 0, k := .row, fz := false, sz := 1, es := z.map (mkV false [.fi .u8]) })], df := [] }
def oj33h (n : Int) (L : List Step_T) (x y : List Int) (z : List Int) (i : Int) : St := { fr := [(2, .int .u8 n), (9, .sref 512 0 0 (L.map (mkV true Step_tfs)).length), (10, .slc x.isEmpty (x.map (mkV false [.fi .u8]))), (11, .slc y.isEmpty (y.map (mkV false [.fi .u8]))), (12, .sref 832 0 0 (z.map (mkV false [.fi .u8])).length), (13, .int .i64 i)], bs := [(448, { v := 0, k := .dead, fz := false, sz := 9, es := [] }), (480, { v := 0, k := .dead, fz := false, sz := 9, es := [] }), (512, { v := 0, k := .row, fz := false, sz := 9, es := L.map (mkV true Step_tfs) }), (592, { v := 0, k := .dead, fz := false, sz := 1, es := [] }), (624, { v := 0, k := .dead, fz := false, sz := 1, es := [] }), (832, { v := 0, k := .row, fz := false, sz := 1, es := z.map (mkV false [.fi .u8]) })], df := [] }
noncomputable def oj33_s (n : Int) (L : List Step_T) (x y : List Int) (z : List Int) (i : Int) : Option (St ⊕ (Ex × St)) := stepK Try.prog cfg Lw5 LP0 5 0 (oj33h n L x y z i)
noncomputable def oj33_s_r (n : Int) (L : List Step_T) (x : List Int) (y : List Int) (z : List Int) (i : Int) : Option (St ⊕ Ex × St) :=
  bK (decide (i < IntKind.i64.wrap (n.tmod 9)))
  (bK (decide (0 + (List.map (mkV false [Lf.fi IntKind.u8]) z).length ≤ (List.map (mkV false [Lf.fi IntKind.u8]) z).length))
    (bK (decide (0 = 0 ∧ (List.map (mkV false [Lf.fi IntKind.u8]) z).length = (List.map (mkV false [Lf.fi IntKind.u8]) z).length) && bytesFit Try.prog 5 ((List.map (mkV false [Lf.fi IntKind.u8]) z).length + 1))
      (some (Sum.inl { fr := [(2, AV.int IntKind.u8 n), (9, AV.sref 512 0 0 (List.map (mkV true [Lf.fi IntKind.i64, Lf.fi IntKind.i64, Lf.fi IntKind.i64, Lf.fi IntKind.i64, Lf.fi IntKind.i64, Lf.fi IntKind.i64, Lf.fi IntKind.i64, Lf.fs, Lf.fl false I1_tfs]) L).length), (10, AV.slc x.isEmpty (List.map (mkV false [Lf.fi IntKind.u8]) x)), (11, AV.slc y.isEmpty (List.map (mkV false [Lf.fi IntKind.u8]) y)), (12, AV.sref 832 0 0 ((List.map (mkV false [Lf.fi IntKind.u8]) z).length + 1)), (13, AV.int IntKind.i64 (IntKind.i64.wrap (i + 1)))], bs := [(448, { v := 0, k := BK.dead, fz := false, sz := 9, es := [] }), (480, { v := 0, k := BK.dead, fz := false, sz := 9, es := [] }), (512, { v := 0, k := BK.row, fz := false, sz := 9, es := List.map (mkV true [Lf.fi IntKind.i64, Lf.fi IntKind.i64, Lf.fi IntKind.i64, Lf.fi IntKind.i64, Lf.fi IntKind.i64, Lf.fi IntKind.i64, Lf.fi IntKind.i64, Lf.fs, Lf.fl false I1_tfs]) L }), (592, { v := 0, k := BK.dead, fz := false, sz := 1, es := [] }), (624, { v := 0, k := BK.dead, fz := false, sz := 1, es := [] }), (832, { v := 0, k := BK.row, fz := false, sz := 1, es := List.take (List.map (mkV false [Lf.fi IntKind.u8]) z).length (List.map (mkV false [Lf.fi IntKind.u8]) z) ++ [AV.int IntKind.u8 (IntKind.u8.wrap (IntKind.i64.wrap (15 * i)))] })], df := [] })) none)
    none)
  (some (Sum.inr (Ex.exit 0, { fr := [(9, AV.sref 512 0 0 (List.map (mkV true [Lf.fi IntKind.i64, Lf.fi IntKind.i64, Lf.fi IntKind.i64, Lf.fi IntKind.i64, Lf.fi IntKind.i64, Lf.fi IntKind.i64, Lf.fi IntKind.i64, Lf.fs, Lf.fl false I1_tfs]) L).length), (10, AV.slc x.isEmpty (List.map (mkV false [Lf.fi IntKind.u8]) x)), (11, AV.slc y.isEmpty (List.map (mkV false [Lf.fi IntKind.u8]) y)), (12, AV.sref 832 0 0 (List.map (mkV false [Lf.fi IntKind.u8]) z).length)], bs := [(448, { v := 0, k := BK.dead, fz := false, sz := 9, es := [] }), (480, { v := 0, k := BK.dead, fz := false, sz := 9, es := [] }), (512, { v := 0, k := BK.row, fz := false, sz := 9, es := List.map (mkV true [Lf.fi IntKind.i64, Lf.fi IntKind.i64, Lf.fi IntKind.i64, Lf.fi IntKind.i64, Lf.fi IntKind.i64, Lf.fi IntKind.i64, Lf.fi IntKind.i64, Lf.fs, Lf.fl false I1_tfs]) L }), (592, { v := 0, k := BK.dead, fz := false, sz := 1, es := [] }), (624, { v := 0, k := BK.dead, fz := false, sz := 1, es := [] }), (832, { v := 0, k := BK.row, fz := false, sz := 1, es := List.map (mkV false [Lf.fi IntKind.u8]) z })], df := [] })))
theorem oj33_s_w (n : Int) (L : List Step_T) (x : List Int) (y : List Int) (z : List Int) (i : Int) : oj33_s n L x y z i = oj33_s_r n L x y z i := by kernel_rfl

def oj33x (L : List Step_T) (x y : List Int) (z : List Int) : St := { fr := [(9, .sref 512 0 0 (L.map (mkV true Step_tfs)).length), (10, .slc x.isEmpty (x.map (mkV false [.fi .u8]))), (11, .slc y.isEmpty (y.map (mkV false [.fi .u8]))), (12, .sref 832 0 0 (z.map (mkV false [.fi .u8])).length)], bs := [(448, { v := 0, k := .dead, fz := false, sz := 9, es := [] }), (480, { v := 0, k := .dead, fz := false, sz := 9, es := [] }), (512, { v := 0, k := .row, fz := false, sz := 9, es := L.map (mkV true Step_tfs) }), (592, { v := 0, k := .dead, fz := false, sz := 1, es := [] }), (624, { v := 0, k := .dead, fz := false, sz := 1, es := [] }), (832, { v := 0, k := .row, fz := false, sz := 1, es := z.map (mkV false [.fi .u8]) })], df := [] }
theorem gl5 : (loopsOf 0 (codeOf Try.prog 5)).map (·.1) = [0] := by kernel_rfl
theorem go5 : OneLoops Try.prog 5 := by unfold OneLoops; rw [gl5]; decide
theorem ga5 : At 0 (codeOf Try.prog 5) 0 (.loop (bodyAt Try.prog 5 0)) := at_body go5 (by rw [gl5]; decide)
/-- Bytes that say nothing. -/
def zsF (i j : Nat) : List Int := (List.range' i j).map fun (k : Nat) => 15 * (k : Int)
theorem zs_succ (i j : Nat) : zsF i (j + 1) = 15 * (i : Int) :: zsF (i + 1) j := by unfold zsF; rw [List.range'_succ, List.map_cons]
theorem w15 {i : Nat} (h : i < 9) : IntKind.u8.wrap (IntKind.i64.wrap (15 * (i : Int))) = 15 * (i : Int) := by
  rw [w64 (by omega) (by omega)]
  exact (wB_eq _).trans (by omega)
theorem aZ (z : List Int) (v : Int) : List.take (z.map (mkV false [.fi .u8])).length (z.map (mkV false [.fi .u8])) ++ [.int .u8 v] = (z ++ [v]).map (mkV false [.fi .u8]) := by rw [List.take_length, List.map_append]; rfl
theorem aZl (z : List Int) (v : Int) : (z.map (mkV false [.fi .u8])).length + 1 = ((z ++ [v]).map (mkV false [.fi .u8])).length := by simp
theorem ojn0 (n : Int) (x y : List Int) (hn : 0 ≤ n ∧ n ≤ 255) : ∀ (j i : Nat) (z : List Int), (i : Int) + j = n.tmod 9 → z.length + j ≤ 500000 → ∀ (fu : Nat), j < fu → Runs' Try.prog cfg Lw5 5 0 fu (oj02h n x y z i) (.exit 0, oj02x x y (z ++ zsF i j))
  | 0, i, z, hi, hz, fu + 1, hf => by
    have h1 := Int.tmod_nonneg 9 hn.1
    have h2 := Int.tmod_lt_of_pos n (show (0 : Int) < 9 by decide)
    have e : zsF i 0 = [] := rfl
    rw [e, List.append_nil]
    refine Runs'.done (lp := LP0) LPok.none ga5 ((oj02_s_w n x y z i).trans ?_)
    unfold oj02_s_r
    rw [w64 (n := n.tmod 9) (by omega) (by omega)]
    exact bK_neg (decide_eq_false (by omega))
  | j + 1, i, z, hi, hz, fu + 1, hf => by
    have h1 := Int.tmod_nonneg 9 hn.1
    have h2 := Int.tmod_lt_of_pos n (show (0 : Int) < 9 by decide)
    have ei : IntKind.i64.wrap ((i : Int) + 1) = ((i + 1 : Nat) : Int) := by rw [w64 (by omega) (by omega)]; omega
    have hr := ojn0 n x y hn j (i + 1) (z ++ [15 * (i : Int)]) (by omega) (by rw [List.length_append, List.length_singleton]; omega) fu (by omega)
    rw [List.append_assoc, List.singleton_append, ← zs_succ] at hr
    refine Runs'.step (lp := LP0) LPok.none ga5 ((oj02_s_w n x y z i).trans ?_) hr
    unfold oj02_s_r
    rw [w64 (n := n.tmod 9) (by omega) (by omega), ei, w15 (by omega)]
    refine bK_tq (Q := fun z => z = _) (decide_eq_true (by omega)) (bK_tq (Q := fun z => z = _) (by simp) (bK_tq (Q := fun z => z = _) (by rw [fit5 (by simp only [List.length_map]; omega)]; simp) ?_))
    rw [aZ, aZl z (15 * (i : Int))]
    rfl
theorem oji0 (n : Int) (x y : List Int) (hn : 0 ≤ n ∧ n ≤ 255) : Runs' Try.prog cfg Lw5 5 0 rounds (oj00h n x y 0) (if n.tmod 9 = 0 then (.exit 0, oj00x x y) else (.exit 0, oj02x x y ([] ++ zsF 0 (n.tmod 9).toNat))) := by
  have h1 := Int.tmod_nonneg 9 hn.1
  have h2 := Int.tmod_lt_of_pos n (show (0 : Int) < 9 by decide)
  obtain ⟨fu, hfu⟩ : ∃ fu, rounds = fu + 1 := ⟨rounds - 1, by decide⟩
  rw [hfu]
  by_cases h0 : n.tmod 9 = 0
  · rw [if_pos h0]
    refine Runs'.done (lp := LP0) LPok.none ga5 ((oj00_s_w n x y 0).trans ?_)
    unfold oj00_s_r
    rw [h0]
    exact bK_neg (by decide)
  · rw [if_neg h0]
    obtain ⟨j, hj⟩ := Nat.exists_eq_succ_of_ne_zero (show (n.tmod 9).toNat ≠ 0 by omega)
    have hr := ojn0 n x y hn j 1 ([] ++ [15 * ((0 : Nat) : Int)]) (by omega) (by simp only [List.length_append, List.length_cons, List.length_nil]; omega) fu (by have : rounds = fu + 1 := hfu; simp only [rounds] at this; omega)
    rw [List.append_assoc, List.singleton_append, ← zs_succ] at hr
    rw [hj]
    refine Runs'.step (lp := LP0) LPok.none ga5 ((oj00_s_w n x y 0).trans ?_) hr
    unfold oj00_s_r
    rw [w64 (n := n.tmod 9) (by omega) (by omega), show IntKind.u8.wrap (IntKind.i64.wrap (15 * 0)) = 15 * ((0 : Nat) : Int) from w15 (i := 0) (by decide), show IntKind.i64.wrap (0 + 1) = ((1 : Nat) : Int) by rw [w64 (by decide) (by decide)]; rfl]
    exact bK_tq (Q := fun z => z = _) (decide_eq_true (by omega)) rfl
theorem ojn1 (n : Int) (L : List Step_T) (x y : List Int) (hn : 0 ≤ n ∧ n ≤ 255) : ∀ (j i : Nat) (z : List Int), (i : Int) + j = n.tmod 9 → z.length + j ≤ 500000 → ∀ (fu : Nat), j < fu → Runs' Try.prog cfg Lw5 5 0 fu (oj12h n L x y z i) (.exit 0, oj12x L x y (z ++ zsF i j))
  | 0, i, z, hi, hz, fu + 1, hf => by
    have h1 := Int.tmod_nonneg 9 hn.1
    have h2 := Int.tmod_lt_of_pos n (show (0 : Int) < 9 by decide)
    have e : zsF i 0 = [] := rfl
    rw [e, List.append_nil]
    refine Runs'.done (lp := LP0) LPok.none ga5 ((oj12_s_w n L x y z i).trans ?_)
    unfold oj12_s_r
    rw [w64 (n := n.tmod 9) (by omega) (by omega)]
    exact bK_neg (decide_eq_false (by omega))
  | j + 1, i, z, hi, hz, fu + 1, hf => by
    have h1 := Int.tmod_nonneg 9 hn.1
    have h2 := Int.tmod_lt_of_pos n (show (0 : Int) < 9 by decide)
    have ei : IntKind.i64.wrap ((i : Int) + 1) = ((i + 1 : Nat) : Int) := by rw [w64 (by omega) (by omega)]; omega
    have hr := ojn1 n L x y hn j (i + 1) (z ++ [15 * (i : Int)]) (by omega) (by rw [List.length_append, List.length_singleton]; omega) fu (by omega)
    rw [List.append_assoc, List.singleton_append, ← zs_succ] at hr
    refine Runs'.step (lp := LP0) LPok.none ga5 ((oj12_s_w n L x y z i).trans ?_) hr
    unfold oj12_s_r
    rw [w64 (n := n.tmod 9) (by omega) (by omega), ei, w15 (by omega)]
    refine bK_tq (Q := fun z => z = _) (decide_eq_true (by omega)) (bK_tq (Q := fun z => z = _) (by simp) (bK_tq (Q := fun z => z = _) (by rw [fit5 (by simp only [List.length_map]; omega)]; simp) ?_))
    rw [aZ, aZl z (15 * (i : Int))]
    rfl
theorem oji1 (n : Int) (L : List Step_T) (x y : List Int) (hn : 0 ≤ n ∧ n ≤ 255) : Runs' Try.prog cfg Lw5 5 0 rounds (oj10h n L x y 0) (if n.tmod 9 = 0 then (.exit 0, oj10x L x y) else (.exit 0, oj12x L x y ([] ++ zsF 0 (n.tmod 9).toNat))) := by
  have h1 := Int.tmod_nonneg 9 hn.1
  have h2 := Int.tmod_lt_of_pos n (show (0 : Int) < 9 by decide)
  obtain ⟨fu, hfu⟩ : ∃ fu, rounds = fu + 1 := ⟨rounds - 1, by decide⟩
  rw [hfu]
  by_cases h0 : n.tmod 9 = 0
  · rw [if_pos h0]
    refine Runs'.done (lp := LP0) LPok.none ga5 ((oj10_s_w n L x y 0).trans ?_)
    unfold oj10_s_r
    rw [h0]
    exact bK_neg (by decide)
  · rw [if_neg h0]
    obtain ⟨j, hj⟩ := Nat.exists_eq_succ_of_ne_zero (show (n.tmod 9).toNat ≠ 0 by omega)
    have hr := ojn1 n L x y hn j 1 ([] ++ [15 * ((0 : Nat) : Int)]) (by omega) (by simp only [List.length_append, List.length_cons, List.length_nil]; omega) fu (by have : rounds = fu + 1 := hfu; simp only [rounds] at this; omega)
    rw [List.append_assoc, List.singleton_append, ← zs_succ] at hr
    rw [hj]
    refine Runs'.step (lp := LP0) LPok.none ga5 ((oj10_s_w n L x y 0).trans ?_) hr
    unfold oj10_s_r
    rw [w64 (n := n.tmod 9) (by omega) (by omega), show IntKind.u8.wrap (IntKind.i64.wrap (15 * 0)) = 15 * ((0 : Nat) : Int) from w15 (i := 0) (by decide), show IntKind.i64.wrap (0 + 1) = ((1 : Nat) : Int) by rw [w64 (by decide) (by decide)]; rfl]
    exact bK_tq (Q := fun z => z = _) (decide_eq_true (by omega)) rfl
theorem ojn2 (n : Int) (L : List Step_T) (x y : List Int) (hn : 0 ≤ n ∧ n ≤ 255) : ∀ (j i : Nat) (z : List Int), (i : Int) + j = n.tmod 9 → z.length + j ≤ 500000 → ∀ (fu : Nat), j < fu → Runs' Try.prog cfg Lw5 5 0 fu (oj23h n L x y z i) (.exit 0, oj23x L x y (z ++ zsF i j))
  | 0, i, z, hi, hz, fu + 1, hf => by
    have h1 := Int.tmod_nonneg 9 hn.1
    have h2 := Int.tmod_lt_of_pos n (show (0 : Int) < 9 by decide)
    have e : zsF i 0 = [] := rfl
    rw [e, List.append_nil]
    refine Runs'.done (lp := LP0) LPok.none ga5 ((oj23_s_w n L x y z i).trans ?_)
    unfold oj23_s_r
    rw [w64 (n := n.tmod 9) (by omega) (by omega)]
    exact bK_neg (decide_eq_false (by omega))
  | j + 1, i, z, hi, hz, fu + 1, hf => by
    have h1 := Int.tmod_nonneg 9 hn.1
    have h2 := Int.tmod_lt_of_pos n (show (0 : Int) < 9 by decide)
    have ei : IntKind.i64.wrap ((i : Int) + 1) = ((i + 1 : Nat) : Int) := by rw [w64 (by omega) (by omega)]; omega
    have hr := ojn2 n L x y hn j (i + 1) (z ++ [15 * (i : Int)]) (by omega) (by rw [List.length_append, List.length_singleton]; omega) fu (by omega)
    rw [List.append_assoc, List.singleton_append, ← zs_succ] at hr
    refine Runs'.step (lp := LP0) LPok.none ga5 ((oj23_s_w n L x y z i).trans ?_) hr
    unfold oj23_s_r
    rw [w64 (n := n.tmod 9) (by omega) (by omega), ei, w15 (by omega)]
    refine bK_tq (Q := fun z => z = _) (decide_eq_true (by omega)) (bK_tq (Q := fun z => z = _) (by simp) (bK_tq (Q := fun z => z = _) (by rw [fit5 (by simp only [List.length_map]; omega)]; simp) ?_))
    rw [aZ, aZl z (15 * (i : Int))]
    rfl
theorem oji2 (n : Int) (L : List Step_T) (x y : List Int) (z : List Int) (hz : z.length ≤ 400000) (hn : 0 ≤ n ∧ n ≤ 255) : Runs' Try.prog cfg Lw5 5 0 rounds (oj21h n L x y z 0) (if n.tmod 9 = 0 then (.exit 0, oj21x L x y z) else (.exit 0, oj23x L x y (z ++ zsF 0 (n.tmod 9).toNat))) := by
  have h1 := Int.tmod_nonneg 9 hn.1
  have h2 := Int.tmod_lt_of_pos n (show (0 : Int) < 9 by decide)
  obtain ⟨fu, hfu⟩ : ∃ fu, rounds = fu + 1 := ⟨rounds - 1, by decide⟩
  rw [hfu]
  by_cases h0 : n.tmod 9 = 0
  · rw [if_pos h0]
    refine Runs'.done (lp := LP0) LPok.none ga5 ((oj21_s_w n L x y z 0).trans ?_)
    unfold oj21_s_r
    rw [h0]
    exact bK_neg (by decide)
  · rw [if_neg h0]
    obtain ⟨j, hj⟩ := Nat.exists_eq_succ_of_ne_zero (show (n.tmod 9).toNat ≠ 0 by omega)
    have hr := ojn2 n L x y hn j 1 (z ++ [15 * ((0 : Nat) : Int)]) (by omega) (by simp only [List.length_append, List.length_cons, List.length_nil]; omega) fu (by have : rounds = fu + 1 := hfu; simp only [rounds] at this; omega)
    rw [List.append_assoc, List.singleton_append, ← zs_succ] at hr
    rw [hj]
    refine Runs'.step (lp := LP0) LPok.none ga5 ((oj21_s_w n L x y z 0).trans ?_) hr
    unfold oj21_s_r
    rw [w64 (n := n.tmod 9) (by omega) (by omega), show IntKind.u8.wrap (IntKind.i64.wrap (15 * 0)) = 15 * ((0 : Nat) : Int) from w15 (i := 0) (by decide), show IntKind.i64.wrap (0 + 1) = ((1 : Nat) : Int) by rw [w64 (by decide) (by decide)]; rfl]
    refine bK_tq (Q := fun z => z = _) (decide_eq_true (by omega)) (bK_tq (Q := fun z => z = _) (by simp) (bK_tq (Q := fun z => z = _) (by rw [fit5 (by simp only [List.length_map]; omega)]; simp) ?_))
    rw [aZ, aZl z (15 * ((0 : Nat) : Int))]
    rfl
theorem ojn3 (n : Int) (L : List Step_T) (x y : List Int) (hn : 0 ≤ n ∧ n ≤ 255) : ∀ (j i : Nat) (z : List Int), (i : Int) + j = n.tmod 9 → z.length + j ≤ 500000 → ∀ (fu : Nat), j < fu → Runs' Try.prog cfg Lw5 5 0 fu (oj33h n L x y z i) (.exit 0, oj33x L x y (z ++ zsF i j))
  | 0, i, z, hi, hz, fu + 1, hf => by
    have h1 := Int.tmod_nonneg 9 hn.1
    have h2 := Int.tmod_lt_of_pos n (show (0 : Int) < 9 by decide)
    have e : zsF i 0 = [] := rfl
    rw [e, List.append_nil]
    refine Runs'.done (lp := LP0) LPok.none ga5 ((oj33_s_w n L x y z i).trans ?_)
    unfold oj33_s_r
    rw [w64 (n := n.tmod 9) (by omega) (by omega)]
    exact bK_neg (decide_eq_false (by omega))
  | j + 1, i, z, hi, hz, fu + 1, hf => by
    have h1 := Int.tmod_nonneg 9 hn.1
    have h2 := Int.tmod_lt_of_pos n (show (0 : Int) < 9 by decide)
    have ei : IntKind.i64.wrap ((i : Int) + 1) = ((i + 1 : Nat) : Int) := by rw [w64 (by omega) (by omega)]; omega
    have hr := ojn3 n L x y hn j (i + 1) (z ++ [15 * (i : Int)]) (by omega) (by rw [List.length_append, List.length_singleton]; omega) fu (by omega)
    rw [List.append_assoc, List.singleton_append, ← zs_succ] at hr
    refine Runs'.step (lp := LP0) LPok.none ga5 ((oj33_s_w n L x y z i).trans ?_) hr
    unfold oj33_s_r
    rw [w64 (n := n.tmod 9) (by omega) (by omega), ei, w15 (by omega)]
    refine bK_tq (Q := fun z => z = _) (decide_eq_true (by omega)) (bK_tq (Q := fun z => z = _) (by simp) (bK_tq (Q := fun z => z = _) (by rw [fit5 (by simp only [List.length_map]; omega)]; simp) ?_))
    rw [aZ, aZl z (15 * (i : Int))]
    rfl
theorem oji3 (n : Int) (L : List Step_T) (x y : List Int) (z : List Int) (hz : z.length ≤ 400000) (hn : 0 ≤ n ∧ n ≤ 255) : Runs' Try.prog cfg Lw5 5 0 rounds (oj31h n L x y z 0) (if n.tmod 9 = 0 then (.exit 0, oj31x L x y z) else (.exit 0, oj33x L x y (z ++ zsF 0 (n.tmod 9).toNat))) := by
  have h1 := Int.tmod_nonneg 9 hn.1
  have h2 := Int.tmod_lt_of_pos n (show (0 : Int) < 9 by decide)
  obtain ⟨fu, hfu⟩ : ∃ fu, rounds = fu + 1 := ⟨rounds - 1, by decide⟩
  rw [hfu]
  by_cases h0 : n.tmod 9 = 0
  · rw [if_pos h0]
    refine Runs'.done (lp := LP0) LPok.none ga5 ((oj31_s_w n L x y z 0).trans ?_)
    unfold oj31_s_r
    rw [h0]
    exact bK_neg (by decide)
  · rw [if_neg h0]
    obtain ⟨j, hj⟩ := Nat.exists_eq_succ_of_ne_zero (show (n.tmod 9).toNat ≠ 0 by omega)
    have hr := ojn3 n L x y hn j 1 (z ++ [15 * ((0 : Nat) : Int)]) (by omega) (by simp only [List.length_append, List.length_cons, List.length_nil]; omega) fu (by have : rounds = fu + 1 := hfu; simp only [rounds] at this; omega)
    rw [List.append_assoc, List.singleton_append, ← zs_succ] at hr
    rw [hj]
    refine Runs'.step (lp := LP0) LPok.none ga5 ((oj31_s_w n L x y z 0).trans ?_) hr
    unfold oj31_s_r
    rw [w64 (n := n.tmod 9) (by omega) (by omega), show IntKind.u8.wrap (IntKind.i64.wrap (15 * 0)) = 15 * ((0 : Nat) : Int) from w15 (i := 0) (by decide), show IntKind.i64.wrap (0 + 1) = ((1 : Nat) : Int) by rw [w64 (by decide) (by decide)]; rfl]
    refine bK_tq (Q := fun z => z = _) (decide_eq_true (by omega)) (bK_tq (Q := fun z => z = _) (by simp) (bK_tq (Q := fun z => z = _) (by rw [fit5 (by simp only [List.length_map]; omega)]; simp) ?_))
    rw [aZ, aZl z (15 * ((0 : Nat) : Int))]
    rfl
abbrev OjD : Type := (Int × List Int × List Int) × Option (Option Bool × List Step_T)
def ojHd (d : OjD) : St := match d.2 with
  | none => oj00h d.1.1 d.1.2.1 d.1.2.2 0
  | some (none, L) => oj10h d.1.1 L d.1.2.1 d.1.2.2 0
  | some (some false, L) => oj21h d.1.1 L d.1.2.1 d.1.2.2 d.1.2.1 0
  | some (some true, L) => oj31h d.1.1 L d.1.2.1 d.1.2.2 d.1.2.1 0
theorem ojHd_inj (d d' : OjD) (h : ojHd d = ojHd d') : d = d' := by
  obtain ⟨⟨n, x, y⟩, t⟩ := d
  obtain ⟨⟨n', x', y'⟩, t'⟩ := d'
  rcases t with _ | ⟨_ | _ | _, L⟩ <;> rcases t' with _ | ⟨_ | _ | _, L'⟩ <;> simp only [ojHd, oj00h, oj10h, oj21h, oj31h, St.mk.injEq, List.cons.injEq, Prod.mk.injEq, AV.slc.injEq, AV.sref.injEq, AV.int.injEq, Blk.mk.injEq, and_true, true_and, reduceCtorEq, false_and, and_false] at h
  · obtain ⟨h1, ⟨_, h2⟩, _, h3⟩ := h
    rw [h1, map_inj (fs := [.fi .u8]) rfl h2, map_inj (fs := [.fi .u8]) rfl h3]
  · obtain ⟨⟨h1, _, ⟨_, h2⟩, _, h3⟩, h4⟩ := h
    rw [h1, map_inj (fs := [.fi .u8]) rfl h2, map_inj (fs := [.fi .u8]) rfl h3, map_inj (fs := Step_tfs) rfl h4]
  · obtain ⟨⟨h1, _, ⟨_, h2⟩, ⟨_, h3⟩, _⟩, h4, _⟩ := h
    rw [h1, map_inj (fs := [.fi .u8]) rfl h2, map_inj (fs := [.fi .u8]) rfl h3, map_inj (fs := Step_tfs) rfl h4]
  · obtain ⟨⟨h1, _, ⟨_, h2⟩, ⟨_, h3⟩, _⟩, h4, _⟩ := h
    rw [h1, map_inj (fs := [.fi .u8]) rfl h2, map_inj (fs := [.fi .u8]) rfl h3, map_inj (fs := Step_tfs) rfl h4]
def ojT (k : Nat) (d : OjD) : Bool := match d.2 with
  | none => decide (k = 0)
  | some (none, _) => decide (k = 1)
  | some (some false, _) => decide (k = 2)
  | some (some true, _) => decide (k = 3)
def ojN (n : Int) : Bool := decide (n.tmod 9 = 0)
def ojLs (d : OjD) : List Step_T := match d.2 with
  | none => []
  | some (_, L) => L
def ojZ (n : Int) : List Int := [] ++ zsF 0 (n.tmod 9).toNat
def ojX (x : List Int) (n : Int) : List Int := x ++ zsF 0 (n.tmod 9).toNat
def ojPre (d : OjD) : Prop := (0 ≤ d.1.1 ∧ d.1.1 ≤ 255) ∧ d.1.2.1.length ≤ 400000
noncomputable def ojL : LP := LP.of ojHd ojPre fun d => .ite (ojT 0 d) (.ite (ojN d.1.1) (.leaf (.exit 0, oj00x d.1.2.1 d.1.2.2)) (.leaf (.exit 0, oj02x d.1.2.1 d.1.2.2 (ojZ d.1.1)))) (.ite (ojT 1 d) (.ite (ojN d.1.1) (.leaf (.exit 0, oj10x (ojLs d) d.1.2.1 d.1.2.2)) (.leaf (.exit 0, oj12x (ojLs d) d.1.2.1 d.1.2.2 (ojZ d.1.1)))) (.ite (ojT 2 d) (.ite (ojN d.1.1) (.leaf (.exit 0, oj21x (ojLs d) d.1.2.1 d.1.2.2 d.1.2.1)) (.leaf (.exit 0, oj23x (ojLs d) d.1.2.1 d.1.2.2 (ojX d.1.2.1 d.1.1)))) (.ite (ojN d.1.1) (.leaf (.exit 0, oj31x (ojLs d) d.1.2.1 d.1.2.2 d.1.2.1)) (.leaf (.exit 0, oj33x (ojLs d) d.1.2.1 d.1.2.2 (ojX d.1.2.1 d.1.1))))))
noncomputable def ojP : LPs := LPs.add LP0 5 0 ojL
theorem ojP_ok : LPok Try.prog cfg Lw5 ojP 5 := LPok.addH LPok.none go5 (by
  rintro ⟨⟨n, x, y⟩, t⟩ ⟨h1, h2⟩
  have h1 : 0 ≤ n ∧ n ≤ 255 := h1
  have h2 : x.length ≤ 400000 := h2
  rcases t with _ | ⟨_ | _ | _, L⟩
  · refine cast ?_ (oji0 n x y h1)
    congr 1
    by_cases h0 : n.tmod 9 = 0
    · have e : ojN n = true := decide_eq_true h0
      simp only [Alt.val, e, if_pos h0]; rfl
    · have e : ojN n = false := decide_eq_false h0
      simp only [Alt.val, e, if_neg h0]; rfl
  · refine cast ?_ (oji1 n L x y h1)
    congr 1
    by_cases h0 : n.tmod 9 = 0
    · have e : ojN n = true := decide_eq_true h0
      simp only [Alt.val, e, if_pos h0]; rfl
    · have e : ojN n = false := decide_eq_false h0
      simp only [Alt.val, e, if_neg h0]; rfl
  · refine cast ?_ (oji2 n L x y x h2 h1)
    congr 1
    by_cases h0 : n.tmod 9 = 0
    · have e : ojN n = true := decide_eq_true h0
      simp only [Alt.val, e, if_pos h0]; rfl
    · have e : ojN n = false := decide_eq_false h0
      simp only [Alt.val, e, if_neg h0]; rfl
  · refine cast ?_ (oji3 n L x y x h2 h1)
    congr 1
    by_cases h0 : n.tmod 9 = 0
    · have e : ojN n = true := decide_eq_true h0
      simp only [Alt.val, e, if_pos h0]; rfl
    · have e : ojN n = false := decide_eq_false h0
      simp only [Alt.val, e, if_neg h0]; rfl)

end Go.Proofs.Ytmjgiplgghmapaa
