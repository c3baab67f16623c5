/- A part of the proof: contracts of functions. -/
import Derived.Test.YtmjgiplgghmapaaU
import Derived.Test.YtmjgiplgghmapaaAbAny

set_option linter.unusedVariables false
set_option linter.unusedSimpArgs false
set_option maxRecDepth 100000
namespace Go.Proofs.Ytmjgiplgghmapaa
open Go Go.Ab
set_option maxHeartbeats 8000000
def ophB (g0 g1 g2 g3 : Int) : Blk := boxB [.int .u16 g0, .int .u16 g1, .int .u16 g2, .int .u16 g3]
def oph0 (n g0 g1 g2 g3 K R k : Int) : St := { fr := [(8, .int .u8 n), (16, .ptr 256 0 0 0), (19, .ptr 304 0 0 0), (21, .int .i64 k)], bs := [(256, ophB g0 g1 g2 g3), (304, boxB [.int .i64 K, .int .i64 R, .int .i64 0, .int .i64 0, .int .i64 0, .int .i64 0, .int .i64 0, .str [], .slc true []])], df := [] }
noncomputable def op_s0 (n g0 g1 g2 g3 K R k : Int) : Option (St ⊕ (Ex × St)) := stepK Try.prog cfg Lw5 LP0 7 3 (oph0 n g0 g1 g2 g3 K R k)
noncomputable def op_s0_r (n : Int) (g0 : Int) (g1 : Int) (g2 : Int) (g3 : Int) (K : Int) (R : Int) (k : Int) : Option (St ⊕ Ex × St) :=
  bK (decide (k < IntKind.i64.wrap (n.tmod 21)))
  (bK (decide (k.tmod 4 = 0)) (some (Sum.inl { fr := [(8, AV.int IntKind.u8 n), (16, AV.ptr 256 0 0 0), (19, AV.ptr 304 0 0 0), (21, AV.int IntKind.i64 (IntKind.i64.wrap (k + 1)))], bs := [(256, { v := 0, k := BK.box, fz := false, sz := 0, es := [AV.int IntKind.u16 g0, AV.int IntKind.u16 g1, AV.int IntKind.u16 g2, AV.int IntKind.u16 g3] }), (304, { v := 0, k := BK.box, fz := false, sz := 0, es := [AV.int IntKind.i64 K, AV.int IntKind.i64 R, AV.int IntKind.i64 0, AV.int IntKind.i64 0, AV.int IntKind.i64 0, AV.int IntKind.i64 0, AV.int IntKind.i64 0, AV.str [], AV.sref 1936 0 0 1] }), (1936, { v := 0, k := BK.row, fz := false, sz := 1, es := [AV.int IntKind.i64 (IntKind.i64.wrap (g0.tmod 256))] })], df := [] }))
    (bK (decide (k.tmod 4 = 1)) (some (Sum.inl { fr := [(8, AV.int IntKind.u8 n), (16, AV.ptr 256 0 0 0), (19, AV.ptr 304 0 0 0), (21, AV.int IntKind.i64 (IntKind.i64.wrap (k + 1)))], bs := [(256, { v := 0, k := BK.box, fz := false, sz := 0, es := [AV.int IntKind.u16 g0, AV.int IntKind.u16 g1, AV.int IntKind.u16 g2, AV.int IntKind.u16 g3] }), (304, { v := 0, k := BK.box, fz := false, sz := 0, es := [AV.int IntKind.i64 K, AV.int IntKind.i64 R, AV.int IntKind.i64 0, AV.int IntKind.i64 0, AV.int IntKind.i64 0, AV.int IntKind.i64 0, AV.int IntKind.i64 0, AV.str [], AV.sref 1936 0 0 1] }), (1936, { v := 0, k := BK.row, fz := false, sz := 1, es := [AV.int IntKind.i64 (IntKind.i64.wrap (g1.tmod 256))] })], df := [] }))
      (bK (decide (k.tmod 4 = 2)) (some (Sum.inl { fr := [(8, AV.int IntKind.u8 n), (16, AV.ptr 256 0 0 0), (19, AV.ptr 304 0 0 0), (21, AV.int IntKind.i64 (IntKind.i64.wrap (k + 1)))], bs := [(256, { v := 0, k := BK.box, fz := false, sz := 0, es := [AV.int IntKind.u16 g0, AV.int IntKind.u16 g1, AV.int IntKind.u16 g2, AV.int IntKind.u16 g3] }), (304, { v := 0, k := BK.box, fz := false, sz := 0, es := [AV.int IntKind.i64 K, AV.int IntKind.i64 R, AV.int IntKind.i64 0, AV.int IntKind.i64 0, AV.int IntKind.i64 0, AV.int IntKind.i64 0, AV.int IntKind.i64 0, AV.str [], AV.sref 1936 0 0 1] }), (1936, { v := 0, k := BK.row, fz := false, sz := 1, es := [AV.int IntKind.i64 (IntKind.i64.wrap (g2.tmod 256))] })], df := [] })) (bK (decide (k.tmod 4 = 3)) (some (Sum.inl { fr := [(8, AV.int IntKind.u8 n), (16, AV.ptr 256 0 0 0), (19, AV.ptr 304 0 0 0), (21, AV.int IntKind.i64 (IntKind.i64.wrap (k + 1)))], bs := [(256, { v := 0, k := BK.box, fz := false, sz := 0, es := [AV.int IntKind.u16 g0, AV.int IntKind.u16 g1, AV.int IntKind.u16 g2, AV.int IntKind.u16 g3] }), (304, { v := 0, k := BK.box, fz := false, sz := 0, es := [AV.int IntKind.i64 K, AV.int IntKind.i64 R, AV.int IntKind.i64 0, AV.int IntKind.i64 0, AV.int IntKind.i64 0, AV.int IntKind.i64 0, AV.int IntKind.i64 0, AV.str [], AV.sref 1936 0 0 1] }), (1936, { v := 0, k := BK.row, fz := false, sz := 1, es := [AV.int IntKind.i64 (IntKind.i64.wrap (g3.tmod 256))] })], df := [] })) none))))
  (some (Sum.inr (Ex.exit 3, { fr := [(19, AV.ptr 304 0 0 0)], bs := [(304, { v := 0, k := BK.box, fz := false, sz := 0, es := [AV.int IntKind.i64 K, AV.int IntKind.i64 R, AV.int IntKind.i64 0, AV.int IntKind.i64 0, AV.int IntKind.i64 0, AV.int IntKind.i64 0, AV.int IntKind.i64 0, AV.str [], AV.slc true []] })], df := [] })))
theorem op_s0_w (n : Int) (g0 : Int) (g1 : Int) (g2 : Int) (g3 : Int) (K : Int) (R : Int) (k : Int) : op_s0 n g0 g1 g2 g3 K R k = op_s0_r n g0 g1 g2 g3 K R k := by kernel_rfl

def oph1 (n g0 g1 g2 g3 K R k : Int) (l : List Int) : St := { fr := [(8, .int .u8 n), (16, .ptr 256 0 0 0), (19, .ptr 304 0 0 0), (21, .int .i64 k)], bs := [(256, ophB g0 g1 g2 g3), (304, boxB [.int .i64 K, .int .i64 R, .int .i64 0, .int .i64 0, .int .i64 0, .int .i64 0, .int .i64 0, .str [], .sref 1936 0 0 (l.map (mkV false [.fi .i64])).length]), (1936, { v := 0, k := .row, fz := false, sz := 1, es := l.map (mkV false [.fi .i64]) })], df := [] }
noncomputable def op_s1 (n g0 g1 g2 g3 K R k : Int) (l : List Int) : Option (St ⊕ (Ex × St)) := stepK Try.prog cfg Lw5 LP0 7 3 (oph1 n g0 g1 g2 g3 K R k l)
noncomputable def op_s1_r (n : Int) (g0 : Int) (g1 : Int) (g2 : Int) (g3 : Int) (K : Int) (R : Int) (k : Int) (l : List Int) : Option (St ⊕ Ex × St) :=
  bK (decide (k < IntKind.i64.wrap (n.tmod 21)))
  (bK (decide (k.tmod 4 = 0)) (bK (decide (0 + (List.map (mkV false I1_tfs) l).length ≤ (List.map (mkV false I1_tfs) l).length)) (bK (decide (0 = 0 ∧ (List.map (mkV false I1_tfs) l).length = (List.map (mkV false I1_tfs) l).length) && bytesFit Try.prog 3 ((List.map (mkV false I1_tfs) l).length + 1)) (some (Sum.inl { fr := [(8, AV.int IntKind.u8 n), (16, AV.ptr 256 0 0 0), (19, AV.ptr 304 0 0 0), (21, AV.int IntKind.i64 (IntKind.i64.wrap (k + 1)))], bs := [(256, { v := 0, k := BK.box, fz := false, sz := 0, es := [AV.int IntKind.u16 g0, AV.int IntKind.u16 g1, AV.int IntKind.u16 g2, AV.int IntKind.u16 g3] }), (304, { v := 0, k := BK.box, fz := false, sz := 0, es := [AV.int IntKind.i64 K, AV.int IntKind.i64 R, AV.int IntKind.i64 0, AV.int IntKind.i64 0, AV.int IntKind.i64 0, AV.int IntKind.i64 0, AV.int IntKind.i64 0, AV.str [], AV.sref 1936 0 0 ((List.map (mkV false I1_tfs) l).length + 1)] }), (1936, { v := 0, k := BK.row, fz := false, sz := 1, es := List.take (List.map (mkV false I1_tfs) l).length (List.map (mkV false I1_tfs) l) ++ [AV.int IntKind.i64 (IntKind.i64.wrap (g0.tmod 256))] })], df := [] })) none) none)
    (bK (decide (k.tmod 4 = 1)) (bK (decide (0 + (List.map (mkV false I1_tfs) l).length ≤ (List.map (mkV false I1_tfs) l).length)) (bK (decide (0 = 0 ∧ (List.map (mkV false I1_tfs) l).length = (List.map (mkV false I1_tfs) l).length) && bytesFit Try.prog 3 ((List.map (mkV false I1_tfs) l).length + 1)) (some (Sum.inl { fr := [(8, AV.int IntKind.u8 n), (16, AV.ptr 256 0 0 0), (19, AV.ptr 304 0 0 0), (21, AV.int IntKind.i64 (IntKind.i64.wrap (k + 1)))], bs := [(256, { v := 0, k := BK.box, fz := false, sz := 0, es := [AV.int IntKind.u16 g0, AV.int IntKind.u16 g1, AV.int IntKind.u16 g2, AV.int IntKind.u16 g3] }), (304, { v := 0, k := BK.box, fz := false, sz := 0, es := [AV.int IntKind.i64 K, AV.int IntKind.i64 R, AV.int IntKind.i64 0, AV.int IntKind.i64 0, AV.int IntKind.i64 0, AV.int IntKind.i64 0, AV.int IntKind.i64 0, AV.str [], AV.sref 1936 0 0 ((List.map (mkV false I1_tfs) l).length + 1)] }), (1936, { v := 0, k := BK.row, fz := false, sz := 1, es := List.take (List.map (mkV false I1_tfs) l).length (List.map (mkV false I1_tfs) l) ++ [AV.int IntKind.i64 (IntKind.i64.wrap (g1.tmod 256))] })], df := [] })) none) none)
      (bK (decide (k.tmod 4 = 2)) (bK (decide (0 + (List.map (mkV false I1_tfs) l).length ≤ (List.map (mkV false I1_tfs) l).length)) (bK (decide (0 = 0 ∧ (List.map (mkV false I1_tfs) l).length = (List.map (mkV false I1_tfs) l).length) && bytesFit Try.prog 3 ((List.map (mkV false I1_tfs) l).length + 1)) (some (Sum.inl { fr := [(8, AV.int IntKind.u8 n), (16, AV.ptr 256 0 0 0), (19, AV.ptr 304 0 0 0), (21, AV.int IntKind.i64 (IntKind.i64.wrap (k + 1)))], bs := [(256, { v := 0, k := BK.box, fz := false, sz := 0, es := [AV.int IntKind.u16 g0, AV.int IntKind.u16 g1, AV.int IntKind.u16 g2, AV.int IntKind.u16 g3] }), (304, { v := 0, k := BK.box, fz := false, sz := 0, es := [AV.int IntKind.i64 K, AV.int IntKind.i64 R, AV.int IntKind.i64 0, AV.int IntKind.i64 0, AV.int IntKind.i64 0, AV.int IntKind.i64 0, AV.int IntKind.i64 0, AV.str [], AV.sref 1936 0 0 ((List.map (mkV false I1_tfs) l).length + 1)] }), (1936, { v := 0, k := BK.row, fz := false, sz := 1, es := List.take (List.map (mkV false I1_tfs) l).length (List.map (mkV false I1_tfs) l) ++ [AV.int IntKind.i64 (IntKind.i64.wrap (g2.tmod 256))] })], df := [] })) none) none)
        (bK (decide (k.tmod 4 = 3)) (bK (decide (0 + (List.map (mkV false I1_tfs) l).length ≤ (List.map (mkV false I1_tfs) l).length)) (bK (decide (0 = 0 ∧ (List.map (mkV false I1_tfs) l).length = (List.map (mkV false I1_tfs) l).length) && bytesFit Try.prog 3 ((List.map (mkV false I1_tfs) l).length + 1)) (some (Sum.inl { fr := [(8, AV.int IntKind.u8 n), (16, AV.ptr 256 0 0 0), (19, AV.ptr 304 0 0 0), (21, AV.int IntKind.i64 (IntKind.i64.wrap (k + 1)))], bs := [(256, { v := 0, k := BK.box, fz := false, sz := 0, es := [AV.int IntKind.u16 g0, AV.int IntKind.u16 g1, AV.int IntKind.u16 g2, AV.int IntKind.u16 g3] }), (304, { v := 0, k := BK.box, fz := false, sz := 0, es := [AV.int IntKind.i64 K, AV.int IntKind.i64 R, AV.int IntKind.i64 0, AV.int IntKind.i64 0, AV.int IntKind.i64 0, AV.int IntKind.i64 0, AV.int IntKind.i64 0, AV.str [], AV.sref 1936 0 0 ((List.map (mkV false I1_tfs) l).length + 1)] }), (1936, { v := 0, k := BK.row, fz := false, sz := 1, es := List.take (List.map (mkV false I1_tfs) l).length (List.map (mkV false I1_tfs) l) ++ [AV.int IntKind.i64 (IntKind.i64.wrap (g3.tmod 256))] })], df := [] })) none) none) none))))
  (some (Sum.inr (Ex.exit 3, { fr := [(19, AV.ptr 304 0 0 0)], bs := [(304, { v := 0, k := BK.box, fz := false, sz := 0, es := [AV.int IntKind.i64 K, AV.int IntKind.i64 R, AV.int IntKind.i64 0, AV.int IntKind.i64 0, AV.int IntKind.i64 0, AV.int IntKind.i64 0, AV.int IntKind.i64 0, AV.str [], AV.sref 1936 0 0 (List.map (mkV false I1_tfs) l).length] }), (1936, { v := 0, k := BK.row, fz := false, sz := 1, es := List.map (mkV false I1_tfs) l })], df := [] })))
theorem op_s1_w (n : Int) (g0 : Int) (g1 : Int) (g2 : Int) (g3 : Int) (K : Int) (R : Int) (k : Int) (l : List Int) : op_s1 n g0 g1 g2 g3 K R k l = op_s1_r n g0 g1 g2 g3 K R k l := by kernel_rfl

theorem gl7 : (loopsOf 0 (codeOf Try.prog 7)).map (·.1) = [1, 3] := by kernel_rfl
theorem go7' : OneLoops Try.prog 7 := by unfold OneLoops; rw [gl7]; decide
theorem ga73 : At 0 (codeOf Try.prog 7) 3 (.loop (bodyAt Try.prog 7 3)) := at_body go7' (by rw [gl7]; decide)
abbrev G4 : Type := Int × Int × Int × Int
/-- The gain of a number. -/
def opv (g : G4) (k : Nat) : Int := (if k % 4 = 0 then g.1 else if k % 4 = 1 then g.2.1 else if k % 4 = 2 then g.2.2.1 else g.2.2.2).tmod 256
def gOk4 (g : G4) : Prop := (0 ≤ g.1 ∧ g.1 ≤ 65535) ∧ (0 ≤ g.2.1 ∧ g.2.1 ≤ 65535) ∧ (0 ≤ g.2.2.1 ∧ g.2.2.1 ≤ 65535) ∧ (0 ≤ g.2.2.2 ∧ g.2.2.2 ≤ 65535)
theorem m256 {v : Int} (h : 0 ≤ v ∧ v ≤ 65535) : IntKind.i64.wrap (v.tmod 256) = v.tmod 256 ∧ 0 ≤ v.tmod 256 ∧ v.tmod 256 < 256 := by
  have h1 := Int.tmod_nonneg 256 h.1
  have h2 := Int.tmod_lt_of_pos v (show (0 : Int) < 256 by decide)
  exact ⟨w64 (by omega) (by omega), h1, h2⟩
theorem opv_b {g : G4} (h : gOk4 g) (k : Nat) : 0 ≤ opv g k ∧ opv g k < 256 := by
  obtain ⟨h0, h1, h2, h3⟩ := h
  unfold opv
  split
  · exact (m256 h0).2
  · split
    · exact (m256 h1).2
    · split
      · exact (m256 h2).2
      · exact (m256 h3).2
def oph (n : Int) (g : G4) (K R k : Int) : List Int → St
  | [] => oph0 n g.1 g.2.1 g.2.2.1 g.2.2.2 K R k
  | y :: t => oph1 n g.1 g.2.1 g.2.2.1 g.2.2.2 K R k (y :: t)
def opx0 (K R : Int) : St := { fr := [(19, .ptr 304 0 0 0)], bs := [(304, boxB [.int .i64 K, .int .i64 R, .int .i64 0, .int .i64 0, .int .i64 0, .int .i64 0, .int .i64 0, .str [], .slc true []])], df := [] }
def opx1 (K R : Int) (l : List Int) : St := { fr := [(19, .ptr 304 0 0 0)], bs := [(304, boxB [.int .i64 K, .int .i64 R, .int .i64 0, .int .i64 0, .int .i64 0, .int .i64 0, .int .i64 0, .str [], .sref 1936 0 0 (l.map (mkV false [.fi .i64])).length]), (1936, { v := 0, k := .row, fz := false, sz := 1, es := l.map (mkV false [.fi .i64]) })], df := [] }
def opx (K R : Int) : List Int → St
  | [] => opx0 K R
  | y :: t => opx1 K R (y :: t)
theorem op_e (n : Int) (g : G4) (K R : Int) (k : Nat) (l : List Int) (hn : 0 ≤ n ∧ n ≤ 255) (hg : gOk4 g) (hk : (k : Int) < n.tmod 21) (hl : l.length ≤ 1000) : stepK Try.prog cfg Lw5 LP0 7 3 (oph n g K R k l) = some (.inl (oph n g K R ((k + 1 : Nat) : Int) (l ++ [opv g k]))) := by
  have h1 := Int.tmod_nonneg 21 hn.1
  have h2 := Int.tmod_lt_of_pos n (show (0 : Int) < 21 by decide)
  have ei : IntKind.i64.wrap ((k : Int) + 1) = ((k + 1 : Nat) : Int) := by rw [w64 (by omega) (by omega)]; omega
  have em : (k : Int).tmod 4 = ((k % 4 : Nat) : Int) := by rw [Int.tmod_eq_emod_of_nonneg (by omega)]; omega
  have hm := Nat.mod_lt k (show 0 < 4 by decide)
  obtain ⟨q0, q1, q2, q3⟩ := hg
  obtain ⟨g0, g1, g2, g3⟩ := g
  dsimp only at q0 q1 q2 q3
  cases l with
  | nil =>
    refine (op_s0_w n g0 g1 g2 g3 K R k).trans ?_
    unfold op_s0_r
    rw [w64 (n := n.tmod 21) (by omega) (by omega), ei, em, (m256 q0).1, (m256 q1).1, (m256 q2).1, (m256 q3).1]
    refine bK_tq (Q := fun z => z = _) (decide_eq_true hk) ?_
    unfold opv
    dsimp only
    refine bK_iq (Q := fun z => z = _) (fun c0 => ?_) (fun c0 => ?_)
    · skip
      rw [if_pos (show k % 4 = 0 by omega)]
      rfl
    · skip
      refine bK_iq (Q := fun z => z = _) (fun c1 => ?_) (fun c1 => ?_)
      · skip
        rw [if_neg (show ¬ k % 4 = 0 by omega), if_pos (show k % 4 = 1 by omega)]
        rfl
      · skip
        refine bK_iq (Q := fun z => z = _) (fun c2 => ?_) (fun c2 => ?_)
        · skip
          rw [if_neg (show ¬ k % 4 = 0 by omega), if_neg (show ¬ k % 4 = 1 by omega), if_pos (show k % 4 = 2 by omega)]
          rfl
        · skip
          refine bK_iq (Q := fun z => z = _) (fun c3 => ?_) (fun c3 => ?_)
          · skip
            rw [if_neg (show ¬ k % 4 = 0 by omega), if_neg (show ¬ k % 4 = 1 by omega), if_neg (show ¬ k % 4 = 2 by omega)]
            rfl
          · skip
            omega
  | cons y t =>
    have aG : ∀ (y : Int) (t : List Int) (v : Int), List.take ((y :: t).map (mkV false I1_tfs)).length ((y :: t).map (mkV false I1_tfs)) ++ [.int .i64 v] = ((y :: t) ++ [v]).map (mkV false I1_tfs) := fun y t v => by rw [List.take_length, List.map_append]; rfl
    have aGl : ∀ (y : Int) (t : List Int) (v : Int), ((y :: t).map (mkV false I1_tfs)).length + 1 = (((y :: t) ++ [v]).map (mkV false I1_tfs)).length := fun y t v => by simp
    refine (op_s1_w n g0 g1 g2 g3 K R k (y :: t)).trans ?_
    unfold op_s1_r
    rw [w64 (n := n.tmod 21) (by omega) (by omega), ei, em, (m256 q0).1, (m256 q1).1, (m256 q2).1, (m256 q3).1]
    refine bK_tq (Q := fun z => z = _) (decide_eq_true hk) ?_
    unfold opv
    dsimp only
    refine bK_iq (Q := fun z => z = _) (fun c0 => ?_) (fun c0 => ?_)
    · skip
      rw [if_pos (show k % 4 = 0 by omega)]
      refine bK_tq (Q := fun z => z = _) (by simp) (bK_tq (Q := fun z => z = _) (by rw [fit3 (by simp only [List.length_map]; omega)]; simp) ?_)
      rw [aG y t _, aGl y t (g0.tmod 256)]
      rfl
    · skip
      refine bK_iq (Q := fun z => z = _) (fun c1 => ?_) (fun c1 => ?_)
      · skip
        rw [if_neg (show ¬ k % 4 = 0 by omega), if_pos (show k % 4 = 1 by omega)]
        refine bK_tq (Q := fun z => z = _) (by simp) (bK_tq (Q := fun z => z = _) (by rw [fit3 (by simp only [List.length_map]; omega)]; simp) ?_)
        rw [aG y t _, aGl y t (g1.tmod 256)]
        rfl
      · skip
        refine bK_iq (Q := fun z => z = _) (fun c2 => ?_) (fun c2 => ?_)
        · skip
          rw [if_neg (show ¬ k % 4 = 0 by omega), if_neg (show ¬ k % 4 = 1 by omega), if_pos (show k % 4 = 2 by omega)]
          refine bK_tq (Q := fun z => z = _) (by simp) (bK_tq (Q := fun z => z = _) (by rw [fit3 (by simp only [List.length_map]; omega)]; simp) ?_)
          rw [aG y t _, aGl y t (g2.tmod 256)]
          rfl
        · skip
          refine bK_iq (Q := fun z => z = _) (fun c3 => ?_) (fun c3 => ?_)
          · skip
            rw [if_neg (show ¬ k % 4 = 0 by omega), if_neg (show ¬ k % 4 = 1 by omega), if_neg (show ¬ k % 4 = 2 by omega)]
            refine bK_tq (Q := fun z => z = _) (by simp) (bK_tq (Q := fun z => z = _) (by rw [fit3 (by simp only [List.length_map]; omega)]; simp) ?_)
            rw [aG y t _, aGl y t (g3.tmod 256)]
            rfl
          · skip
            omega
theorem op_run (n : Int) (g : G4) (K R : Int) (hn : 0 ≤ n ∧ n ≤ 255) (hg : gOk4 g) : ∀ (j k : Nat) (l : List Int), (k : Int) + j = n.tmod 21 → l.length + j ≤ 1000 → ∀ (fu : Nat), j < fu → Runs' Try.prog cfg Lw5 7 3 fu (oph n g K R k l) (.exit 3, opx K R (l ++ (List.range' k j).map (opv g)))
  | 0, k, l, hk, hl, fu + 1, hf => by
    have h1 := Int.tmod_nonneg 21 hn.1
    have h2 := Int.tmod_lt_of_pos n (show (0 : Int) < 21 by decide)
    rw [List.range'_zero, List.map_nil, List.append_nil]
    cases l with
    | nil =>
      refine Runs'.done (lp := LP0) LPok.none ga73 ((op_s0_w n g.1 g.2.1 g.2.2.1 g.2.2.2 K R k).trans ?_)
      unfold op_s0_r
      rw [w64 (n := n.tmod 21) (by omega) (by omega)]
      exact bK_neg (decide_eq_false (by omega))
    | cons y t =>
      refine Runs'.done (lp := LP0) LPok.none ga73 ((op_s1_w n g.1 g.2.1 g.2.2.1 g.2.2.2 K R k (y :: t)).trans ?_)
      unfold op_s1_r
      rw [w64 (n := n.tmod 21) (by omega) (by omega)]
      exact bK_neg (decide_eq_false (by omega))
  | j + 1, k, l, hk, hl, fu + 1, hf => by
    have he := op_e n g K R k l hn hg (by omega) (by omega)
    have hr := op_run n g K R hn hg j (k + 1) (l ++ [opv g k]) (by omega) (by rw [List.length_append, List.length_singleton]; omega) fu (by omega)
    rw [List.append_assoc, List.singleton_append] at hr
    rw [List.range'_succ, List.map_cons]
    exact Runs'.step (lp := LP0) LPok.none ga73 he hr
abbrev OpD : Type := Int × G4 × Int × Int
def opHd (d : OpD) : St := oph0 d.1 d.2.1.1 d.2.1.2.1 d.2.1.2.2.1 d.2.1.2.2.2 d.2.2.1 d.2.2.2 0
theorem opHd_inj (d d' : OpD) (h : opHd d = opHd d') : d = d' := by
  obtain ⟨n, ⟨g0, g1, g2, g3⟩, K, R⟩ := d
  obtain ⟨n', ⟨g0', g1', g2', g3'⟩, K', R'⟩ := d'
  simp only [opHd, oph0, ophB, boxB, St.mk.injEq, List.cons.injEq, Prod.mk.injEq, AV.int.injEq, Blk.mk.injEq, and_true, true_and] at h
  obtain ⟨h1, ⟨h2, h3, h4, h5⟩, h6, h7⟩ := h
  rw [h1, h2, h3, h4, h5, h6, h7]
def opL (d : OpD) : List Int := (List.range' 0 (d.1.tmod 21).toNat).map (opv d.2.1)
def opPre (d : OpD) : Prop := (0 ≤ d.1 ∧ d.1 ≤ 255) ∧ gOk4 d.2.1
noncomputable def opLp : LP := LP.of opHd opPre fun d => .ite (noI (opL d)) (.leaf (.exit 3, opx0 d.2.2.1 d.2.2.2)) (.leaf (.exit 3, opx1 d.2.2.1 d.2.2.2 (opL d)))
noncomputable def opP : LPs := LPs.add LP0 7 3 opLp
theorem opP_ok : LPok Try.prog cfg Lw5 opP 7 := LPok.addH LPok.none go7' (by
  rintro ⟨n, g, K, R⟩ ⟨h1, h2⟩
  have h1 : 0 ≤ n ∧ n ≤ 255 := h1
  have k1 := Int.tmod_nonneg 21 h1.1
  have k2 := Int.tmod_lt_of_pos n (show (0 : Int) < 21 by decide)
  have hr := op_run n g K R h1 h2 (n.tmod 21).toNat 0 [] (by omega) (by simp only [List.length_nil]; omega) rounds (by simp only [rounds]; omega)
  refine cast ?_ hr
  congr 1
  show (Ex.exit 3, opx K R (opL (n, g, K, R))) = _
  cases opL (n, g, K, R) <;> rfl)
theorem opL_spec (d : OpD) (h : opPre d) : (opL d).length ≤ 20 ∧ ∀ v ∈ opL d, 0 ≤ v ∧ v < 256 := by
  have k1 := Int.tmod_nonneg 21 h.1.1
  have k2 := Int.tmod_lt_of_pos d.1 (show (0 : Int) < 21 by decide)
  refine ⟨by show ((List.range' 0 (d.1.tmod 21).toNat).map (opv d.2.1)).length ≤ 20; rw [List.length_map, List.length_range']; omega, fun v hv => ?_⟩
  have hv : v ∈ (List.range' 0 (d.1.tmod 21).toNat).map (opv d.2.1) := hv
  obtain ⟨k, _, rfl⟩ := List.mem_map.1 hv
  exact opv_b h.2 k
abbrev opsOne_id : Nat := 7
abbrev opsOne_sh : Shp := [none, none, none, none, none, none, none, some 4, none]
abbrev opsOne_fs : List Lf := [.fi .u8, .fi .u8, .fi .u8, .fi .u8, .fi .u8, .fi .u16, .fs, .fi .u16, .fi .u16, .fi .u16, .fi .u16, .fi .u8]
abbrev opsOne_rsh : Shp := [none]
abbrev opsOne_rfs : List Lf := [.fb]
noncomputable def opsOne_r (kind : Int) (r : Int) (f : Int) (off : Int) (i : Int) (to_ : Int) (s : List UInt8) (g0 : Int) (g1 : Int) (g2 : Int) (g3 : Int) (n : Int) : Option Ret :=
  oK (begunS.dec [] []) fun (d0 : PUnit) =>
  bK (decide (255 < (↑s.length : Int))) (some { pan := false, res := AV.bool true, out := [], new := [] })
    (bK (decide (IntKind.i64.wrap (1 + IntKind.i64.wrap (kind.tmod 14)) = 1))
      (oK (puS.dec [AV.slc false [AV.agg [AV.int IntKind.i64 (IntKind.i64.wrap (1 + IntKind.i64.wrap (kind.tmod 14))), AV.int IntKind.i64 0, AV.int IntKind.i64 (IntKind.i64.wrap to_), AV.int IntKind.i64 0, AV.int IntKind.i64 0, AV.int IntKind.i64 0, AV.int IntKind.i64 0, AV.str [], AV.slc false [AV.int IntKind.i64 (IntKind.i64.wrap g0), AV.int IntKind.i64 (IntKind.i64.wrap g1), AV.int IntKind.i64 (IntKind.i64.wrap g2), AV.int IntKind.i64 (IntKind.i64.wrap g3)]]]] []) fun (d1 : Bool × List (Int × Int × Int × Int × Int × Int × Int × List UInt8 × Bool × List Int)) =>
        oK (takeS.dec [AV.slc (puF d1.snd).isEmpty (List.map (mkV false [Lf.fi IntKind.u8]) (puF d1.snd))] []) fun (d2 : Bool × List Int) =>
          bK (decide ((↑(List.map (mkV true [Lf.fi IntKind.i64, Lf.fi IntKind.i64, Lf.fi IntKind.i64, Lf.fi IntKind.i64, Lf.fi IntKind.i64, Lf.fi IntKind.i64, Lf.fi IntKind.i64, Lf.fs, Lf.fl false I1_tfs]) (tsF d2)).length : Int) = 1))
            (oK (elemAt true [Lf.fi IntKind.i64, Lf.fi IntKind.i64, Lf.fi IntKind.i64, Lf.fi IntKind.i64, Lf.fi IntKind.i64, Lf.fi IntKind.i64, Lf.fi IntKind.i64, Lf.fs, Lf.fl false I1_tfs] (List.map (mkV true [Lf.fi IntKind.i64, Lf.fi IntKind.i64, Lf.fi IntKind.i64, Lf.fi IntKind.i64, Lf.fi IntKind.i64, Lf.fi IntKind.i64, Lf.fi IntKind.i64, Lf.fs, Lf.fl false I1_tfs]) (tsF d2)) 0) fun (d3 : Int × Int × Int × Int × Int × Int × Int × List UInt8 × Bool × List Int) =>
              oK (ssS.dec [AV.agg [AV.int IntKind.i64 d3.fst, AV.int IntKind.i64 d3.snd.fst, AV.int IntKind.i64 d3.snd.snd.fst, AV.int IntKind.i64 d3.snd.snd.snd.fst, AV.int IntKind.i64 d3.snd.snd.snd.snd.fst, AV.int IntKind.i64 d3.snd.snd.snd.snd.snd.fst, AV.int IntKind.i64 d3.snd.snd.snd.snd.snd.snd.fst, AV.str d3.snd.snd.snd.snd.snd.snd.snd.fst, AV.slc d3.snd.snd.snd.snd.snd.snd.snd.snd.fst (List.map (mkV false I1_tfs) d3.snd.snd.snd.snd.snd.snd.snd.snd.snd)], AV.agg [AV.int IntKind.i64 (IntKind.i64.wrap (1 + IntKind.i64.wrap (kind.tmod 14))), AV.int IntKind.i64 0, AV.int IntKind.i64 (IntKind.i64.wrap to_), AV.int IntKind.i64 0, AV.int IntKind.i64 0, AV.int IntKind.i64 0, AV.int IntKind.i64 0, AV.str [], AV.slc false [AV.int IntKind.i64 (IntKind.i64.wrap g0), AV.int IntKind.i64 (IntKind.i64.wrap g1), AV.int IntKind.i64 (IntKind.i64.wrap g2), AV.int IntKind.i64 (IntKind.i64.wrap g3)]]] []) fun (d4 : Int × Int × Int × Int × Int × Int × Int × List UInt8 × (Bool × List Int) × Int × Int × Int × Int × Int × Int × Int × List UInt8 × Bool × List Int) => some { pan := false, res := AV.bool (smF d4), out := [], new := [] })
            (some { pan := false, res := AV.bool false, out := [], new := [] }))
      (bK (decide (IntKind.i64.wrap (1 + IntKind.i64.wrap (kind.tmod 14)) = 2))
        (oK (puS.dec [AV.slc false [AV.agg [AV.int IntKind.i64 (IntKind.i64.wrap (1 + IntKind.i64.wrap (kind.tmod 14))), AV.int IntKind.i64 (IntKind.i64.wrap r), AV.int IntKind.i64 0, AV.int IntKind.i64 0, AV.int IntKind.i64 0, AV.int IntKind.i64 0, AV.int IntKind.i64 0, AV.str [], AV.slc true []]]] []) fun (d5 : Bool × List (Int × Int × Int × Int × Int × Int × Int × List UInt8 × Bool × List Int)) =>
          oK (takeS.dec [AV.slc (puF d5.snd).isEmpty (List.map (mkV false [Lf.fi IntKind.u8]) (puF d5.snd))] []) fun (d6 : Bool × List Int) =>
            bK (decide ((↑(List.map (mkV true [Lf.fi IntKind.i64, Lf.fi IntKind.i64, Lf.fi IntKind.i64, Lf.fi IntKind.i64, Lf.fi IntKind.i64, Lf.fi IntKind.i64, Lf.fi IntKind.i64, Lf.fs, Lf.fl false I1_tfs]) (tsF d6)).length : Int) = 1))
              (oK (elemAt true [Lf.fi IntKind.i64, Lf.fi IntKind.i64, Lf.fi IntKind.i64, Lf.fi IntKind.i64, Lf.fi IntKind.i64, Lf.fi IntKind.i64, Lf.fi IntKind.i64, Lf.fs, Lf.fl false I1_tfs] (List.map (mkV true [Lf.fi IntKind.i64, Lf.fi IntKind.i64, Lf.fi IntKind.i64, Lf.fi IntKind.i64, Lf.fi IntKind.i64, Lf.fi IntKind.i64, Lf.fi IntKind.i64, Lf.fs, Lf.fl false I1_tfs]) (tsF d6)) 0) fun (d7 : Int × Int × Int × Int × Int × Int × Int × List UInt8 × Bool × List Int) => oK (ssS.dec [AV.agg [AV.int IntKind.i64 d7.fst, AV.int IntKind.i64 d7.snd.fst, AV.int IntKind.i64 d7.snd.snd.fst, AV.int IntKind.i64 d7.snd.snd.snd.fst, AV.int IntKind.i64 d7.snd.snd.snd.snd.fst, AV.int IntKind.i64 d7.snd.snd.snd.snd.snd.fst, AV.int IntKind.i64 d7.snd.snd.snd.snd.snd.snd.fst, AV.str d7.snd.snd.snd.snd.snd.snd.snd.fst, AV.slc d7.snd.snd.snd.snd.snd.snd.snd.snd.fst (List.map (mkV false I1_tfs) d7.snd.snd.snd.snd.snd.snd.snd.snd.snd)], AV.agg [AV.int IntKind.i64 (IntKind.i64.wrap (1 + IntKind.i64.wrap (kind.tmod 14))), AV.int IntKind.i64 (IntKind.i64.wrap r), AV.int IntKind.i64 0, AV.int IntKind.i64 0, AV.int IntKind.i64 0, AV.int IntKind.i64 0, AV.int IntKind.i64 0, AV.str [], AV.slc true []]] []) fun (d8 : Int × Int × Int × Int × Int × Int × Int × List UInt8 × (Bool × List Int) × Int × Int × Int × Int × Int × Int × Int × List UInt8 × Bool × List Int) => some { pan := false, res := AV.bool (smF d8), out := [], new := [] }) (some { pan := false, res := AV.bool false, out := [], new := [] }))
        (bK (decide (IntKind.i64.wrap (1 + IntKind.i64.wrap (kind.tmod 14)) = 3))
          (oK (puS.dec [AV.slc false [AV.agg [AV.int IntKind.i64 (IntKind.i64.wrap (1 + IntKind.i64.wrap (kind.tmod 14))), AV.int IntKind.i64 (IntKind.i64.wrap r), AV.int IntKind.i64 0, AV.int IntKind.i64 0, AV.int IntKind.i64 0, AV.int IntKind.i64 0, AV.int IntKind.i64 0, AV.str s, AV.slc true []]]] []) fun (d9 : Bool × List (Int × Int × Int × Int × Int × Int × Int × List UInt8 × Bool × List Int)) =>
            oK (takeS.dec [AV.slc (puF d9.snd).isEmpty (List.map (mkV false [Lf.fi IntKind.u8]) (puF d9.snd))] []) fun (d10 : Bool × List Int) =>
              bK (decide ((↑(List.map (mkV true [Lf.fi IntKind.i64, Lf.fi IntKind.i64, Lf.fi IntKind.i64, Lf.fi IntKind.i64, Lf.fi IntKind.i64, Lf.fi IntKind.i64, Lf.fi IntKind.i64, Lf.fs, Lf.fl false I1_tfs]) (tsF d10)).length : Int) = 1))
                (oK (elemAt true [Lf.fi IntKind.i64, Lf.fi IntKind.i64, Lf.fi IntKind.i64, Lf.fi IntKind.i64, Lf.fi IntKind.i64, Lf.fi IntKind.i64, Lf.fi IntKind.i64, Lf.fs, Lf.fl false I1_tfs] (List.map (mkV true [Lf.fi IntKind.i64, Lf.fi IntKind.i64, Lf.fi IntKind.i64, Lf.fi IntKind.i64, Lf.fi IntKind.i64, Lf.fi IntKind.i64, Lf.fi IntKind.i64, Lf.fs, Lf.fl false I1_tfs]) (tsF d10)) 0) fun (d11 : Int × Int × Int × Int × Int × Int × Int × List UInt8 × Bool × List Int) => oK (ssS.dec [AV.agg [AV.int IntKind.i64 d11.fst, AV.int IntKind.i64 d11.snd.fst, AV.int IntKind.i64 d11.snd.snd.fst, AV.int IntKind.i64 d11.snd.snd.snd.fst, AV.int IntKind.i64 d11.snd.snd.snd.snd.fst, AV.int IntKind.i64 d11.snd.snd.snd.snd.snd.fst, AV.int IntKind.i64 d11.snd.snd.snd.snd.snd.snd.fst, AV.str d11.snd.snd.snd.snd.snd.snd.snd.fst, AV.slc d11.snd.snd.snd.snd.snd.snd.snd.snd.fst (List.map (mkV false I1_tfs) d11.snd.snd.snd.snd.snd.snd.snd.snd.snd)], AV.agg [AV.int IntKind.i64 (IntKind.i64.wrap (1 + IntKind.i64.wrap (kind.tmod 14))), AV.int IntKind.i64 (IntKind.i64.wrap r), AV.int IntKind.i64 0, AV.int IntKind.i64 0, AV.int IntKind.i64 0, AV.int IntKind.i64 0, AV.int IntKind.i64 0, AV.str s, AV.slc true []]] []) fun (d12 : Int × Int × Int × Int × Int × Int × Int × List UInt8 × (Bool × List Int) × Int × Int × Int × Int × Int × Int × Int × List UInt8 × Bool × List Int) => some { pan := false, res := AV.bool (smF d12), out := [], new := [] })
                (some { pan := false, res := AV.bool false, out := [], new := [] }))
          (bK (decide (IntKind.i64.wrap (1 + IntKind.i64.wrap (kind.tmod 14)) = 4))
            (oK (puS.dec [AV.slc false [AV.agg [AV.int IntKind.i64 (IntKind.i64.wrap (1 + IntKind.i64.wrap (kind.tmod 14))), AV.int IntKind.i64 (IntKind.i64.wrap r), AV.int IntKind.i64 0, AV.int IntKind.i64 (IntKind.i64.wrap f), AV.int IntKind.i64 0, AV.int IntKind.i64 0, AV.int IntKind.i64 0, AV.str [], AV.slc true []]]] []) fun (d13 : Bool × List (Int × Int × Int × Int × Int × Int × Int × List UInt8 × Bool × List Int)) =>
              oK (takeS.dec [AV.slc (puF d13.snd).isEmpty (List.map (mkV false [Lf.fi IntKind.u8]) (puF d13.snd))] []) fun (d14 : Bool × List Int) =>
                bK (decide ((↑(List.map (mkV true [Lf.fi IntKind.i64, Lf.fi IntKind.i64, Lf.fi IntKind.i64, Lf.fi IntKind.i64, Lf.fi IntKind.i64, Lf.fi IntKind.i64, Lf.fi IntKind.i64, Lf.fs, Lf.fl false I1_tfs]) (tsF d14)).length : Int) = 1))
                  (oK (elemAt true [Lf.fi IntKind.i64, Lf.fi IntKind.i64, Lf.fi IntKind.i64, Lf.fi IntKind.i64, Lf.fi IntKind.i64, Lf.fi IntKind.i64, Lf.fi IntKind.i64, Lf.fs, Lf.fl false I1_tfs] (List.map (mkV true [Lf.fi IntKind.i64, Lf.fi IntKind.i64, Lf.fi IntKind.i64, Lf.fi IntKind.i64, Lf.fi IntKind.i64, Lf.fi IntKind.i64, Lf.fi IntKind.i64, Lf.fs, Lf.fl false I1_tfs]) (tsF d14)) 0) fun (d15 : Int × Int × Int × Int × Int × Int × Int × List UInt8 × Bool × List Int) => oK (ssS.dec [AV.agg [AV.int IntKind.i64 d15.fst, AV.int IntKind.i64 d15.snd.fst, AV.int IntKind.i64 d15.snd.snd.fst, AV.int IntKind.i64 d15.snd.snd.snd.fst, AV.int IntKind.i64 d15.snd.snd.snd.snd.fst, AV.int IntKind.i64 d15.snd.snd.snd.snd.snd.fst, AV.int IntKind.i64 d15.snd.snd.snd.snd.snd.snd.fst, AV.str d15.snd.snd.snd.snd.snd.snd.snd.fst, AV.slc d15.snd.snd.snd.snd.snd.snd.snd.snd.fst (List.map (mkV false I1_tfs) d15.snd.snd.snd.snd.snd.snd.snd.snd.snd)], AV.agg [AV.int IntKind.i64 (IntKind.i64.wrap (1 + IntKind.i64.wrap (kind.tmod 14))), AV.int IntKind.i64 (IntKind.i64.wrap r), AV.int IntKind.i64 0, AV.int IntKind.i64 (IntKind.i64.wrap f), AV.int IntKind.i64 0, AV.int IntKind.i64 0, AV.int IntKind.i64 0, AV.str [], AV.slc true []]] []) fun (d16 : Int × Int × Int × Int × Int × Int × Int × List UInt8 × (Bool × List Int) × Int × Int × Int × Int × Int × Int × Int × List UInt8 × Bool × List Int) => some { pan := false, res := AV.bool (smF d16), out := [], new := [] })
                  (some { pan := false, res := AV.bool false, out := [], new := [] }))
            (bK (decide (IntKind.i64.wrap (1 + IntKind.i64.wrap (kind.tmod 14)) = 6))
              (oK (puS.dec [AV.slc false [AV.agg [AV.int IntKind.i64 (IntKind.i64.wrap (1 + IntKind.i64.wrap (kind.tmod 14))), AV.int IntKind.i64 (IntKind.i64.wrap r), AV.int IntKind.i64 0, AV.int IntKind.i64 (IntKind.i64.wrap f), AV.int IntKind.i64 0, AV.int IntKind.i64 0, AV.int IntKind.i64 0, AV.str [], AV.slc true []]]] []) fun (d17 : Bool × List (Int × Int × Int × Int × Int × Int × Int × List UInt8 × Bool × List Int)) =>
                oK (takeS.dec [AV.slc (puF d17.snd).isEmpty (List.map (mkV false [Lf.fi IntKind.u8]) (puF d17.snd))] []) fun (d18 : Bool × List Int) =>
                  bK (decide ((↑(List.map (mkV true [Lf.fi IntKind.i64, Lf.fi IntKind.i64, Lf.fi IntKind.i64, Lf.fi IntKind.i64, Lf.fi IntKind.i64, Lf.fi IntKind.i64, Lf.fi IntKind.i64, Lf.fs, Lf.fl false I1_tfs]) (tsF d18)).length : Int) = 1))
                    (oK (elemAt true [Lf.fi IntKind.i64, Lf.fi IntKind.i64, Lf.fi IntKind.i64, Lf.fi IntKind.i64, Lf.fi IntKind.i64, Lf.fi IntKind.i64, Lf.fi IntKind.i64, Lf.fs, Lf.fl false I1_tfs] (List.map (mkV true [Lf.fi IntKind.i64, Lf.fi IntKind.i64, Lf.fi IntKind.i64, Lf.fi IntKind.i64, Lf.fi IntKind.i64, Lf.fi IntKind.i64, Lf.fi IntKind.i64, Lf.fs, Lf.fl false I1_tfs]) (tsF d18)) 0) fun (d19 : Int × Int × Int × Int × Int × Int × Int × List UInt8 × Bool × List Int) => oK (ssS.dec [AV.agg [AV.int IntKind.i64 d19.fst, AV.int IntKind.i64 d19.snd.fst, AV.int IntKind.i64 d19.snd.snd.fst, AV.int IntKind.i64 d19.snd.snd.snd.fst, AV.int IntKind.i64 d19.snd.snd.snd.snd.fst, AV.int IntKind.i64 d19.snd.snd.snd.snd.snd.fst, AV.int IntKind.i64 d19.snd.snd.snd.snd.snd.snd.fst, AV.str d19.snd.snd.snd.snd.snd.snd.snd.fst, AV.slc d19.snd.snd.snd.snd.snd.snd.snd.snd.fst (List.map (mkV false I1_tfs) d19.snd.snd.snd.snd.snd.snd.snd.snd.snd)], AV.agg [AV.int IntKind.i64 (IntKind.i64.wrap (1 + IntKind.i64.wrap (kind.tmod 14))), AV.int IntKind.i64 (IntKind.i64.wrap r), AV.int IntKind.i64 0, AV.int IntKind.i64 (IntKind.i64.wrap f), AV.int IntKind.i64 0, AV.int IntKind.i64 0, AV.int IntKind.i64 0, AV.str [], AV.slc true []]] []) fun (d20 : Int × Int × Int × Int × Int × Int × Int × List UInt8 × (Bool × List Int) × Int × Int × Int × Int × Int × Int × Int × List UInt8 × Bool × List Int) => some { pan := false, res := AV.bool (smF d20), out := [], new := [] })
                    (some { pan := false, res := AV.bool false, out := [], new := [] }))
              (bK (decide (IntKind.i64.wrap (1 + IntKind.i64.wrap (kind.tmod 14)) = 7))
                (oK (puS.dec [AV.slc false [AV.agg [AV.int IntKind.i64 (IntKind.i64.wrap (1 + IntKind.i64.wrap (kind.tmod 14))), AV.int IntKind.i64 (IntKind.i64.wrap r), AV.int IntKind.i64 0, AV.int IntKind.i64 (IntKind.i64.wrap f), AV.int IntKind.i64 0, AV.int IntKind.i64 0, AV.int IntKind.i64 0, AV.str [], AV.slc true []]]] []) fun (d21 : Bool × List (Int × Int × Int × Int × Int × Int × Int × List UInt8 × Bool × List Int)) =>
                  oK (takeS.dec [AV.slc (puF d21.snd).isEmpty (List.map (mkV false [Lf.fi IntKind.u8]) (puF d21.snd))] []) fun (d22 : Bool × List Int) =>
                    bK (decide ((↑(List.map (mkV true [Lf.fi IntKind.i64, Lf.fi IntKind.i64, Lf.fi IntKind.i64, Lf.fi IntKind.i64, Lf.fi IntKind.i64, Lf.fi IntKind.i64, Lf.fi IntKind.i64, Lf.fs, Lf.fl false I1_tfs]) (tsF d22)).length : Int) = 1))
                      (oK (elemAt true [Lf.fi IntKind.i64, Lf.fi IntKind.i64, Lf.fi IntKind.i64, Lf.fi IntKind.i64, Lf.fi IntKind.i64, Lf.fi IntKind.i64, Lf.fi IntKind.i64, Lf.fs, Lf.fl false I1_tfs] (List.map (mkV true [Lf.fi IntKind.i64, Lf.fi IntKind.i64, Lf.fi IntKind.i64, Lf.fi IntKind.i64, Lf.fi IntKind.i64, Lf.fi IntKind.i64, Lf.fi IntKind.i64, Lf.fs, Lf.fl false I1_tfs]) (tsF d22)) 0) fun (d23 : Int × Int × Int × Int × Int × Int × Int × List UInt8 × Bool × List Int) => oK (ssS.dec [AV.agg [AV.int IntKind.i64 d23.fst, AV.int IntKind.i64 d23.snd.fst, AV.int IntKind.i64 d23.snd.snd.fst, AV.int IntKind.i64 d23.snd.snd.snd.fst, AV.int IntKind.i64 d23.snd.snd.snd.snd.fst, AV.int IntKind.i64 d23.snd.snd.snd.snd.snd.fst, AV.int IntKind.i64 d23.snd.snd.snd.snd.snd.snd.fst, AV.str d23.snd.snd.snd.snd.snd.snd.snd.fst, AV.slc d23.snd.snd.snd.snd.snd.snd.snd.snd.fst (List.map (mkV false I1_tfs) d23.snd.snd.snd.snd.snd.snd.snd.snd.snd)], AV.agg [AV.int IntKind.i64 (IntKind.i64.wrap (1 + IntKind.i64.wrap (kind.tmod 14))), AV.int IntKind.i64 (IntKind.i64.wrap r), AV.int IntKind.i64 0, AV.int IntKind.i64 (IntKind.i64.wrap f), AV.int IntKind.i64 0, AV.int IntKind.i64 0, AV.int IntKind.i64 0, AV.str [], AV.slc true []]] []) fun (d24 : Int × Int × Int × Int × Int × Int × Int × List UInt8 × (Bool × List Int) × Int × Int × Int × Int × Int × Int × Int × List UInt8 × Bool × List Int) => some { pan := false, res := AV.bool (smF d24), out := [], new := [] })
                      (some { pan := false, res := AV.bool false, out := [], new := [] }))
                (bK (decide (IntKind.i64.wrap (1 + IntKind.i64.wrap (kind.tmod 14)) = 8))
                  (oK (puS.dec [AV.slc false [AV.agg [AV.int IntKind.i64 (IntKind.i64.wrap (1 + IntKind.i64.wrap (kind.tmod 14))), AV.int IntKind.i64 (IntKind.i64.wrap r), AV.int IntKind.i64 0, AV.int IntKind.i64 (IntKind.i64.wrap f), AV.int IntKind.i64 0, AV.int IntKind.i64 0, AV.int IntKind.i64 0, AV.str [], AV.slc true []]]] []) fun (d25 : Bool × List (Int × Int × Int × Int × Int × Int × Int × List UInt8 × Bool × List Int)) =>
                    oK (takeS.dec [AV.slc (puF d25.snd).isEmpty (List.map (mkV false [Lf.fi IntKind.u8]) (puF d25.snd))] []) fun (d26 : Bool × List Int) =>
                      bK (decide ((↑(List.map (mkV true [Lf.fi IntKind.i64, Lf.fi IntKind.i64, Lf.fi IntKind.i64, Lf.fi IntKind.i64, Lf.fi IntKind.i64, Lf.fi IntKind.i64, Lf.fi IntKind.i64, Lf.fs, Lf.fl false I1_tfs]) (tsF d26)).length : Int) = 1))
                        (oK (elemAt true [Lf.fi IntKind.i64, Lf.fi IntKind.i64, Lf.fi IntKind.i64, Lf.fi IntKind.i64, Lf.fi IntKind.i64, Lf.fi IntKind.i64, Lf.fi IntKind.i64, Lf.fs, Lf.fl false I1_tfs] (List.map (mkV true [Lf.fi IntKind.i64, Lf.fi IntKind.i64, Lf.fi IntKind.i64, Lf.fi IntKind.i64, Lf.fi IntKind.i64, Lf.fi IntKind.i64, Lf.fi IntKind.i64, Lf.fs, Lf.fl false I1_tfs]) (tsF d26)) 0) fun (d27 : Int × Int × Int × Int × Int × Int × Int × List UInt8 × Bool × List Int) => oK (ssS.dec [AV.agg [AV.int IntKind.i64 d27.fst, AV.int IntKind.i64 d27.snd.fst, AV.int IntKind.i64 d27.snd.snd.fst, AV.int IntKind.i64 d27.snd.snd.snd.fst, AV.int IntKind.i64 d27.snd.snd.snd.snd.fst, AV.int IntKind.i64 d27.snd.snd.snd.snd.snd.fst, AV.int IntKind.i64 d27.snd.snd.snd.snd.snd.snd.fst, AV.str d27.snd.snd.snd.snd.snd.snd.snd.fst, AV.slc d27.snd.snd.snd.snd.snd.snd.snd.snd.fst (List.map (mkV false I1_tfs) d27.snd.snd.snd.snd.snd.snd.snd.snd.snd)], AV.agg [AV.int IntKind.i64 (IntKind.i64.wrap (1 + IntKind.i64.wrap (kind.tmod 14))), AV.int IntKind.i64 (IntKind.i64.wrap r), AV.int IntKind.i64 0, AV.int IntKind.i64 (IntKind.i64.wrap f), AV.int IntKind.i64 0, AV.int IntKind.i64 0, AV.int IntKind.i64 0, AV.str [], AV.slc true []]] []) fun (d28 : Int × Int × Int × Int × Int × Int × Int × List UInt8 × (Bool × List Int) × Int × Int × Int × Int × Int × Int × Int × List UInt8 × Bool × List Int) => some { pan := false, res := AV.bool (smF d28), out := [], new := [] })
                        (some { pan := false, res := AV.bool false, out := [], new := [] }))
                  (bK (decide (IntKind.i64.wrap (1 + IntKind.i64.wrap (kind.tmod 14)) = 5))
                    (oK (puS.dec [AV.slc false [AV.agg [AV.int IntKind.i64 (IntKind.i64.wrap (1 + IntKind.i64.wrap (kind.tmod 14))), AV.int IntKind.i64 (IntKind.i64.wrap r), AV.int IntKind.i64 0, AV.int IntKind.i64 (IntKind.i64.wrap f), AV.int IntKind.i64 (IntKind.i64.wrap off), AV.int IntKind.i64 0, AV.int IntKind.i64 0, AV.str s, AV.slc true []]]] []) fun (d29 : Bool × List (Int × Int × Int × Int × Int × Int × Int × List UInt8 × Bool × List Int)) =>
                      oK (takeS.dec [AV.slc (puF d29.snd).isEmpty (List.map (mkV false [Lf.fi IntKind.u8]) (puF d29.snd))] []) fun (d30 : Bool × List Int) =>
                        bK (decide ((↑(List.map (mkV true [Lf.fi IntKind.i64, Lf.fi IntKind.i64, Lf.fi IntKind.i64, Lf.fi IntKind.i64, Lf.fi IntKind.i64, Lf.fi IntKind.i64, Lf.fi IntKind.i64, Lf.fs, Lf.fl false I1_tfs]) (tsF d30)).length : Int) = 1))
                          (oK (elemAt true [Lf.fi IntKind.i64, Lf.fi IntKind.i64, Lf.fi IntKind.i64, Lf.fi IntKind.i64, Lf.fi IntKind.i64, Lf.fi IntKind.i64, Lf.fi IntKind.i64, Lf.fs, Lf.fl false I1_tfs] (List.map (mkV true [Lf.fi IntKind.i64, Lf.fi IntKind.i64, Lf.fi IntKind.i64, Lf.fi IntKind.i64, Lf.fi IntKind.i64, Lf.fi IntKind.i64, Lf.fi IntKind.i64, Lf.fs, Lf.fl false I1_tfs]) (tsF d30)) 0) fun (d31 : Int × Int × Int × Int × Int × Int × Int × List UInt8 × Bool × List Int) => oK (ssS.dec [AV.agg [AV.int IntKind.i64 d31.fst, AV.int IntKind.i64 d31.snd.fst, AV.int IntKind.i64 d31.snd.snd.fst, AV.int IntKind.i64 d31.snd.snd.snd.fst, AV.int IntKind.i64 d31.snd.snd.snd.snd.fst, AV.int IntKind.i64 d31.snd.snd.snd.snd.snd.fst, AV.int IntKind.i64 d31.snd.snd.snd.snd.snd.snd.fst, AV.str d31.snd.snd.snd.snd.snd.snd.snd.fst, AV.slc d31.snd.snd.snd.snd.snd.snd.snd.snd.fst (List.map (mkV false I1_tfs) d31.snd.snd.snd.snd.snd.snd.snd.snd.snd)], AV.agg [AV.int IntKind.i64 (IntKind.i64.wrap (1 + IntKind.i64.wrap (kind.tmod 14))), AV.int IntKind.i64 (IntKind.i64.wrap r), AV.int IntKind.i64 0, AV.int IntKind.i64 (IntKind.i64.wrap f), AV.int IntKind.i64 (IntKind.i64.wrap off), AV.int IntKind.i64 0, AV.int IntKind.i64 0, AV.str s, AV.slc true []]] []) fun (d32 : Int × Int × Int × Int × Int × Int × Int × List UInt8 × (Bool × List Int) × Int × Int × Int × Int × Int × Int × Int × List UInt8 × Bool × List Int) => some { pan := false, res := AV.bool (smF d32), out := [], new := [] })
                          (some { pan := false, res := AV.bool false, out := [], new := [] }))
                    (bK (decide (IntKind.i64.wrap (1 + IntKind.i64.wrap (kind.tmod 14)) = 12))
                      (oK (puS.dec [AV.slc false [AV.agg [AV.int IntKind.i64 (IntKind.i64.wrap (1 + IntKind.i64.wrap (kind.tmod 14))), AV.int IntKind.i64 0, AV.int IntKind.i64 0, AV.int IntKind.i64 0, AV.int IntKind.i64 0, AV.int IntKind.i64 (IntKind.i64.wrap i), AV.int IntKind.i64 (IntKind.i64.wrap to_), AV.str [], AV.slc true []]]] []) fun (d33 : Bool × List (Int × Int × Int × Int × Int × Int × Int × List UInt8 × Bool × List Int)) =>
                        oK (takeS.dec [AV.slc (puF d33.snd).isEmpty (List.map (mkV false [Lf.fi IntKind.u8]) (puF d33.snd))] []) fun (d34 : Bool × List Int) =>
                          bK (decide ((↑(List.map (mkV true [Lf.fi IntKind.i64, Lf.fi IntKind.i64, Lf.fi IntKind.i64, Lf.fi IntKind.i64, Lf.fi IntKind.i64, Lf.fi IntKind.i64, Lf.fi IntKind.i64, Lf.fs, Lf.fl false I1_tfs]) (tsF d34)).length : Int) = 1))
                            (oK (elemAt true [Lf.fi IntKind.i64, Lf.fi IntKind.i64, Lf.fi IntKind.i64, Lf.fi IntKind.i64, Lf.fi IntKind.i64, Lf.fi IntKind.i64, Lf.fi IntKind.i64, Lf.fs, Lf.fl false I1_tfs] (List.map (mkV true [Lf.fi IntKind.i64, Lf.fi IntKind.i64, Lf.fi IntKind.i64, Lf.fi IntKind.i64, Lf.fi IntKind.i64, Lf.fi IntKind.i64, Lf.fi IntKind.i64, Lf.fs, Lf.fl false I1_tfs]) (tsF d34)) 0) fun (d35 : Int × Int × Int × Int × Int × Int × Int × List UInt8 × Bool × List Int) => oK (ssS.dec [AV.agg [AV.int IntKind.i64 d35.fst, AV.int IntKind.i64 d35.snd.fst, AV.int IntKind.i64 d35.snd.snd.fst, AV.int IntKind.i64 d35.snd.snd.snd.fst, AV.int IntKind.i64 d35.snd.snd.snd.snd.fst, AV.int IntKind.i64 d35.snd.snd.snd.snd.snd.fst, AV.int IntKind.i64 d35.snd.snd.snd.snd.snd.snd.fst, AV.str d35.snd.snd.snd.snd.snd.snd.snd.fst, AV.slc d35.snd.snd.snd.snd.snd.snd.snd.snd.fst (List.map (mkV false I1_tfs) d35.snd.snd.snd.snd.snd.snd.snd.snd.snd)], AV.agg [AV.int IntKind.i64 (IntKind.i64.wrap (1 + IntKind.i64.wrap (kind.tmod 14))), AV.int IntKind.i64 0, AV.int IntKind.i64 0, AV.int IntKind.i64 0, AV.int IntKind.i64 0, AV.int IntKind.i64 (IntKind.i64.wrap i), AV.int IntKind.i64 (IntKind.i64.wrap to_), AV.str [], AV.slc true []]] []) fun (d36 : Int × Int × Int × Int × Int × Int × Int × List UInt8 × (Bool × List Int) × Int × Int × Int × Int × Int × Int × Int × List UInt8 × Bool × List Int) => some { pan := false, res := AV.bool (smF d36), out := [], new := [] })
                            (some { pan := false, res := AV.bool false, out := [], new := [] }))
                      (bK (decide (IntKind.i64.wrap (1 + IntKind.i64.wrap (kind.tmod 14)) = 14))
                        (oK (opLp.dec { fr := [(8, AV.int IntKind.u8 n), (16, AV.ptr 256 0 0 0), (19, AV.ptr 304 0 0 0), (21, AV.int IntKind.i64 0)], bs := [(256, { v := 0, k := BK.box, fz := false, sz := 0, es := [AV.int IntKind.u16 g0, AV.int IntKind.u16 g1, AV.int IntKind.u16 g2, AV.int IntKind.u16 g3] }), (304, { v := 0, k := BK.box, fz := false, sz := 0, es := [AV.int IntKind.i64 (IntKind.i64.wrap (1 + IntKind.i64.wrap (kind.tmod 14))), AV.int IntKind.i64 (IntKind.i64.wrap r), AV.int IntKind.i64 0, AV.int IntKind.i64 0, AV.int IntKind.i64 0, AV.int IntKind.i64 0, AV.int IntKind.i64 0, AV.str [], AV.slc true []] })], df := [] }) fun (d37 : Int × (Int × Int × Int × Int) × Int × Int) =>
                          bK (noI (opL d37))
                            (oK (puS.dec [AV.slc false [AV.agg [AV.int IntKind.i64 d37.snd.snd.fst, AV.int IntKind.i64 d37.snd.snd.snd, AV.int IntKind.i64 0, AV.int IntKind.i64 0, AV.int IntKind.i64 0, AV.int IntKind.i64 0, AV.int IntKind.i64 0, AV.str [], AV.slc true []]]] []) fun (d38 : Bool × List (Int × Int × Int × Int × Int × Int × Int × List UInt8 × Bool × List Int)) =>
                              oK (takeS.dec [AV.slc (puF d38.snd).isEmpty (List.map (mkV false [Lf.fi IntKind.u8]) (puF d38.snd))] []) fun (d39 : Bool × List Int) =>
                                bK (decide ((↑(List.map (mkV true [Lf.fi IntKind.i64, Lf.fi IntKind.i64, Lf.fi IntKind.i64, Lf.fi IntKind.i64, Lf.fi IntKind.i64, Lf.fi IntKind.i64, Lf.fi IntKind.i64, Lf.fs, Lf.fl false I1_tfs]) (tsF d39)).length : Int) = 1))
                                  (oK (elemAt true [Lf.fi IntKind.i64, Lf.fi IntKind.i64, Lf.fi IntKind.i64, Lf.fi IntKind.i64, Lf.fi IntKind.i64, Lf.fi IntKind.i64, Lf.fi IntKind.i64, Lf.fs, Lf.fl false I1_tfs] (List.map (mkV true [Lf.fi IntKind.i64, Lf.fi IntKind.i64, Lf.fi IntKind.i64, Lf.fi IntKind.i64, Lf.fi IntKind.i64, Lf.fi IntKind.i64, Lf.fi IntKind.i64, Lf.fs, Lf.fl false I1_tfs]) (tsF d39)) 0) fun (d40 : Int × Int × Int × Int × Int × Int × Int × List UInt8 × Bool × List Int) => oK (ssS.dec [AV.agg [AV.int IntKind.i64 d40.fst, AV.int IntKind.i64 d40.snd.fst, AV.int IntKind.i64 d40.snd.snd.fst, AV.int IntKind.i64 d40.snd.snd.snd.fst, AV.int IntKind.i64 d40.snd.snd.snd.snd.fst, AV.int IntKind.i64 d40.snd.snd.snd.snd.snd.fst, AV.int IntKind.i64 d40.snd.snd.snd.snd.snd.snd.fst, AV.str d40.snd.snd.snd.snd.snd.snd.snd.fst, AV.slc d40.snd.snd.snd.snd.snd.snd.snd.snd.fst (List.map (mkV false I1_tfs) d40.snd.snd.snd.snd.snd.snd.snd.snd.snd)], AV.agg [AV.int IntKind.i64 d37.snd.snd.fst, AV.int IntKind.i64 d37.snd.snd.snd, AV.int IntKind.i64 0, AV.int IntKind.i64 0, AV.int IntKind.i64 0, AV.int IntKind.i64 0, AV.int IntKind.i64 0, AV.str [], AV.slc true []]] []) fun (d41 : Int × Int × Int × Int × Int × Int × Int × List UInt8 × (Bool × List Int) × Int × Int × Int × Int × Int × Int × Int × List UInt8 × Bool × List Int) => some { pan := false, res := AV.bool (smF d41), out := [], new := [] }) (some { pan := false, res := AV.bool false, out := [], new := [] }))
                            (bK (decide (0 + (List.map (mkV false I1_tfs) (opL d37)).length ≤ (List.map (mkV false I1_tfs) (opL d37)).length))
                              (oK (puS.dec [AV.slc false [AV.agg [AV.int IntKind.i64 d37.snd.snd.fst, AV.int IntKind.i64 d37.snd.snd.snd, AV.int IntKind.i64 0, AV.int IntKind.i64 0, AV.int IntKind.i64 0, AV.int IntKind.i64 0, AV.int IntKind.i64 0, AV.str [], AV.slc false (List.take (List.map (mkV false I1_tfs) (opL d37)).length (List.drop 0 (List.map (mkV false I1_tfs) (opL d37))))]]] []) fun (d42 : Bool × List (Int × Int × Int × Int × Int × Int × Int × List UInt8 × Bool × List Int)) =>
                                oK (takeS.dec [AV.slc (puF d42.snd).isEmpty (List.map (mkV false [Lf.fi IntKind.u8]) (puF d42.snd))] []) fun (d43 : Bool × List Int) =>
                                  bK (decide ((↑(List.map (mkV true [Lf.fi IntKind.i64, Lf.fi IntKind.i64, Lf.fi IntKind.i64, Lf.fi IntKind.i64, Lf.fi IntKind.i64, Lf.fi IntKind.i64, Lf.fi IntKind.i64, Lf.fs, Lf.fl false I1_tfs]) (tsF d43)).length : Int) = 1))
                                    (oK (elemAt true [Lf.fi IntKind.i64, Lf.fi IntKind.i64, Lf.fi IntKind.i64, Lf.fi IntKind.i64, Lf.fi IntKind.i64, Lf.fi IntKind.i64, Lf.fi IntKind.i64, Lf.fs, Lf.fl false I1_tfs] (List.map (mkV true [Lf.fi IntKind.i64, Lf.fi IntKind.i64, Lf.fi IntKind.i64, Lf.fi IntKind.i64, Lf.fi IntKind.i64, Lf.fi IntKind.i64, Lf.fi IntKind.i64, Lf.fs, Lf.fl false I1_tfs]) (tsF d43)) 0) fun (d44 : Int × Int × Int × Int × Int × Int × Int × List UInt8 × Bool × List Int) =>
                                      bK (decide (0 + (List.map (mkV false I1_tfs) (opL d37)).length ≤ (List.map (mkV false I1_tfs) (opL d37)).length)) (oK (ssS.dec [AV.agg [AV.int IntKind.i64 d44.fst, AV.int IntKind.i64 d44.snd.fst, AV.int IntKind.i64 d44.snd.snd.fst, AV.int IntKind.i64 d44.snd.snd.snd.fst, AV.int IntKind.i64 d44.snd.snd.snd.snd.fst, AV.int IntKind.i64 d44.snd.snd.snd.snd.snd.fst, AV.int IntKind.i64 d44.snd.snd.snd.snd.snd.snd.fst, AV.str d44.snd.snd.snd.snd.snd.snd.snd.fst, AV.slc d44.snd.snd.snd.snd.snd.snd.snd.snd.fst (List.map (mkV false I1_tfs) d44.snd.snd.snd.snd.snd.snd.snd.snd.snd)], AV.agg [AV.int IntKind.i64 d37.snd.snd.fst, AV.int IntKind.i64 d37.snd.snd.snd, AV.int IntKind.i64 0, AV.int IntKind.i64 0, AV.int IntKind.i64 0, AV.int IntKind.i64 0, AV.int IntKind.i64 0, AV.str [], AV.slc false (List.take (List.map (mkV false I1_tfs) (opL d37)).length (List.drop 0 (List.map (mkV false I1_tfs) (opL d37))))]] []) fun (d45 : Int × Int × Int × Int × Int × Int × Int × List UInt8 × (Bool × List Int) × Int × Int × Int × Int × Int × Int × Int × List UInt8 × Bool × List Int) => some { pan := false, res := AV.bool (smF d45), out := [], new := [] }) none)
                                    (some { pan := false, res := AV.bool false, out := [], new := [] }))
                              none))
                        (oK (puS.dec [AV.slc false [AV.agg [AV.int IntKind.i64 (IntKind.i64.wrap (1 + IntKind.i64.wrap (kind.tmod 14))), AV.int IntKind.i64 0, AV.int IntKind.i64 0, AV.int IntKind.i64 0, AV.int IntKind.i64 0, AV.int IntKind.i64 (IntKind.i64.wrap i), AV.int IntKind.i64 0, AV.str [], AV.slc true []]]] []) fun (d46 : Bool × List (Int × Int × Int × Int × Int × Int × Int × List UInt8 × Bool × List Int)) =>
                          oK (takeS.dec [AV.slc (puF d46.snd).isEmpty (List.map (mkV false [Lf.fi IntKind.u8]) (puF d46.snd))] []) fun (d47 : Bool × List Int) =>
                            bK (decide ((↑(List.map (mkV true [Lf.fi IntKind.i64, Lf.fi IntKind.i64, Lf.fi IntKind.i64, Lf.fi IntKind.i64, Lf.fi IntKind.i64, Lf.fi IntKind.i64, Lf.fi IntKind.i64, Lf.fs, Lf.fl false I1_tfs]) (tsF d47)).length : Int) = 1))
                              (oK (elemAt true [Lf.fi IntKind.i64, Lf.fi IntKind.i64, Lf.fi IntKind.i64, Lf.fi IntKind.i64, Lf.fi IntKind.i64, Lf.fi IntKind.i64, Lf.fi IntKind.i64, Lf.fs, Lf.fl false I1_tfs] (List.map (mkV true [Lf.fi IntKind.i64, Lf.fi IntKind.i64, Lf.fi IntKind.i64, Lf.fi IntKind.i64, Lf.fi IntKind.i64, Lf.fi IntKind.i64, Lf.fi IntKind.i64, Lf.fs, Lf.fl false I1_tfs]) (tsF d47)) 0) fun (d48 : Int × Int × Int × Int × Int × Int × Int × List UInt8 × Bool × List Int) => oK (ssS.dec [AV.agg [AV.int IntKind.i64 d48.fst, AV.int IntKind.i64 d48.snd.fst, AV.int IntKind.i64 d48.snd.snd.fst, AV.int IntKind.i64 d48.snd.snd.snd.fst, AV.int IntKind.i64 d48.snd.snd.snd.snd.fst, AV.int IntKind.i64 d48.snd.snd.snd.snd.snd.fst, AV.int IntKind.i64 d48.snd.snd.snd.snd.snd.snd.fst, AV.str d48.snd.snd.snd.snd.snd.snd.snd.fst, AV.slc d48.snd.snd.snd.snd.snd.snd.snd.snd.fst (List.map (mkV false I1_tfs) d48.snd.snd.snd.snd.snd.snd.snd.snd.snd)], AV.agg [AV.int IntKind.i64 (IntKind.i64.wrap (1 + IntKind.i64.wrap (kind.tmod 14))), AV.int IntKind.i64 0, AV.int IntKind.i64 0, AV.int IntKind.i64 0, AV.int IntKind.i64 0, AV.int IntKind.i64 (IntKind.i64.wrap i), AV.int IntKind.i64 0, AV.str [], AV.slc true []]] []) fun (d49 : Int × Int × Int × Int × Int × Int × Int × List UInt8 × (Bool × List Int) × Int × Int × Int × Int × Int × Int × Int × List UInt8 × Bool × List Int) => some { pan := false, res := AV.bool (smF d49), out := [], new := [] })
                              (some { pan := false, res := AV.bool false, out := [], new := [] }))))))))))))
theorem opsOne_w (kind : Int) (r : Int) (f : Int) (off : Int) (i : Int) (to_ : Int) (s : List UInt8) (g0 : Int) (g1 : Int) (g2 : Int) (g3 : Int) (n : Int) : unitQ Try.prog cfg Lw5 opP true 7 (groupA opsOne_sh (Tu.mk opsOne_fs (kind, r, f, off, i, to_, s, g0, g1, g2, g3, n))) [] = opsOne_r kind r f off i to_ s g0 g1 g2 g3 n := by kernel_rfl

end Go.Proofs.Ytmjgiplgghmapaa
