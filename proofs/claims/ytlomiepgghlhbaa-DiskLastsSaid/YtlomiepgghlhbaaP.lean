/- A part of the proof: contracts of functions. -/
import Derived.Test.YtlomiepgghlhbaaF
import Derived.Test.YtlomiepgghlhbaaAbAny

set_option linter.unusedVariables false
set_option linter.unusedSimpArgs false
set_option maxRecDepth 100000
namespace Go.Proofs.Ytlomiepgghlhbaa
open Go Go.Ab
set_option maxHeartbeats 8000000
noncomputable def PKn : PKs := fun _ => none
theorem PKn_ok : PKsOk Try.prog PKn := PKsOk.none
noncomputable def cl_0 (x : Bool) (d : List UInt8) (l : List (List UInt8)) : Option Ret := unitQ Try.prog cfg PKn LP0 true 37 [.slc x (mkV false [.fs] d :: l.map (mkV false [.fs]))] []
noncomputable def cl_0_r (x : Bool) (d : List UInt8) (l : List (List UInt8)) : Option Ret :=
  bK ((AV.str d :: List.map (mkV false [Lf.fs]) l).all fun (y : AV) => decide (y.cells.length = 1)) (bK (true && bytesFit Try.prog 9 (0 + (AV.str d :: List.map (mkV false [Lf.fs]) l).length)) (some { pan := false, res := AV.sref 2000000 0 0 (0 + (AV.str d :: List.map (mkV false [Lf.fs]) l).length), out := [], new := [{ v := 0, k := BK.row, fz := false, sz := 1, es := AV.str d :: List.map (mkV false [Lf.fs]) l }] }) none) none
theorem cl_0_w (x : Bool) (d : List UInt8) (l : List (List UInt8)) : cl_0 x d l = cl_0_r x d l := by kernel_rfl

noncomputable def cm_0 (x : Bool) (d : Put_T) (l : List Put_T) : Option Ret := unitQ Try.prog cfg PKn LP0 true 38 [.slc x (mkV true Put_tfs d :: l.map (mkV true Put_tfs))] []
noncomputable def cm_0_r (x : Bool) (d : Put_T) (l : List Put_T) : Option Ret :=
  bK ((AV.agg [AV.int IntKind.i64 d.fst, AV.str d.snd] :: List.map (mkV true Put_tfs) l).all fun (y : AV) => decide (y.cells.length = 2)) (bK (true && bytesFit Try.prog 54 (0 + (AV.agg [AV.int IntKind.i64 d.fst, AV.str d.snd] :: List.map (mkV true Put_tfs) l).length)) (some { pan := false, res := AV.sref 2000000 0 0 (0 + (AV.agg [AV.int IntKind.i64 d.fst, AV.str d.snd] :: List.map (mkV true Put_tfs) l).length), out := [], new := [{ v := 0, k := BK.row, fz := false, sz := 2, es := AV.agg [AV.int IntKind.i64 d.fst, AV.str d.snd] :: List.map (mkV true Put_tfs) l }] }) none) none
theorem cm_0_w (x : Bool) (d : Put_T) (l : List Put_T) : cm_0 x d l = cm_0_r x d l := by kernel_rfl

theorem bytes9 : Try.prog.bytesOf 9 = 16 := by kernel_rfl
theorem bytes54 : Try.prog.bytesOf 54 = 24 := by kernel_rfl
theorem fit9 {n : Nat} (h : n ≤ 1000000) : bytesFit Try.prog 9 n = true := by
  simp only [bytesFit, bytes9, decide_eq_true_eq]; omega
theorem fit54 {n : Nat} (h : n ≤ 1000000) : bytesFit Try.prog 54 n = true := by
  simp only [bytesFit, bytes54, decide_eq_true_eq]; omega
/-- The same list. -/
def cloneF (d : Bool × List (List UInt8)) : Bool × List (List UInt8) := (true, d.2)
noncomputable def cloneS : FS := ⟨[none], [.fl false [.fs]], [none], [.fl false [.fs]], fun d => d.2.length ≤ 100000, fun d => cloneF d, some (0, 1)⟩
theorem cl_ok : ∀ d : Tu cloneS.fs, cloneS.pre d → (∃ x, cloneS.args d = [.slc x []] ∧ cloneS.ret d = { pan := false, res := .slc true [], out := [], new := [] }) ∨ unitQ Try.prog cfg PKn LP0 true 37 (cloneS.args d) [] = some (cloneS.ret d)
  | (x, []), _ => .inl ⟨x, rfl, rfl⟩
  | (x, d :: l), h => .inr (by
    refine (cl_0_w x d l).trans ?_
    unfold cl_0_r
    have h' : (d :: l).length ≤ 100000 := h
    rw [bK_pos (by simp [AV.cells, mkV, mkA, Tu.mk, Lf.mk]), bK_pos (by
      rw [Bool.true_and]
      refine fit9 ?_
      simp only [List.length_cons, List.length_map] at h' ⊢
      omega)]
    show _ = some (cloneS.alts (x, d :: l)).val
    refine (congrArg some ?_).trans (congrArg some (own_one (sz := 1) (x := true) (l := d :: l) (f := mkV false [.fs]) (out := [])).symm)
    rw [if_neg (by simp)]
    simp only [List.length_cons, List.length_map, Nat.zero_add]
    rfl)
/-- The same list. -/
def cloneG (d : Bool × List Put_T) : Bool × List Put_T := (true, d.2)
noncomputable def clonS : FS := ⟨[none], [.fl true Put_tfs], [none], [.fl true Put_tfs], fun d => d.2.length ≤ 100000, fun d => cloneG d, some (0, 2)⟩
theorem cm_ok : ∀ d : Tu clonS.fs, clonS.pre d → (∃ x, clonS.args d = [.slc x []] ∧ clonS.ret d = { pan := false, res := .slc true [], out := [], new := [] }) ∨ unitQ Try.prog cfg PKn LP0 true 38 (clonS.args d) [] = some (clonS.ret d)
  | (x, []), _ => .inl ⟨x, rfl, rfl⟩
  | (x, d :: l), h => .inr (by
    refine (cm_0_w x d l).trans ?_
    unfold cm_0_r
    have h' : (d :: l).length ≤ 100000 := h
    rw [bK_pos (by simp [AV.cells, mkV, mkA, Tu.mk, Lf.mk]), bK_pos (by
      rw [Bool.true_and]
      refine fit54 ?_
      simp only [List.length_cons, List.length_map] at h' ⊢
      omega)]
    show _ = some (clonS.alts (x, d :: l)).val
    refine (congrArg some ?_).trans (congrArg some (own_one (sz := 2) (x := true) (l := d :: l) (f := mkV true Put_tfs) (out := [])).symm)
    rw [if_neg (by simp)]
    simp only [List.length_cons, List.length_map, Nat.zero_add]
    rfl)
theorem cloneO : ∀ d : Tu cloneS.fs, cloneS.pre d → CallOk Try.prog 37 (cloneS.args d) [] (cloneS.ret d) := fun d h => by
  rcases cl_ok d h with ⟨x, h1, h2⟩ | h2
  · rw [h1, h2]; exact CallOk.prim clone37_empty rfl
  · exact CallOk.unit (cfg := cfg) (fnOk PKn_ok 21) rfl (lp := LP0) fLoops_none (by simp) h2
theorem clonO : ∀ d : Tu clonS.fs, clonS.pre d → CallOk Try.prog 38 (clonS.args d) [] (clonS.ret d) := fun d h => by
  rcases cm_ok d h with ⟨x, h1, h2⟩ | h2
  · rw [h1, h2]; exact CallOk.prim clone38_empty rfl
  · exact CallOk.unit (cfg := cfg) (fnOk PKn_ok 21) rfl (lp := LP0) fLoops_none (by simp) h2
noncomputable def PK1 : PKs := PKn.add 37 cloneS.pk
theorem PK1_ok : PKsOk Try.prog PK1 := PKsOk.anyF PKn_ok 37 cloneS cloneO
noncomputable def PK2 : PKs := PK1.add 38 clonS.pk
theorem PK2_ok : PKsOk Try.prog PK2 := PKsOk.anyF PK1_ok 38 clonS clonO
abbrev wri_id : Nat := 16
abbrev wri_sh : Shp := [some 4, none, none]
abbrev wri_fs : List Lf := [.fl false [.fs], .fl true Put_tfs, .fi .i64, .fb, .fi .i64, .fs]
abbrev wri_rsh : Shp := [some 4, none]
abbrev wri_rfs : List Lf := [.fl false [.fs], .fl true Put_tfs, .fi .i64, .fb, .fb]
noncomputable def wri_r (d_Last_x : Bool) (d_Last : List (List UInt8)) (d_Wait_x : Bool) (d_Wait : List Put_T) (d_Arm : Int) (d_Down : Bool) (i : Int) (b : List UInt8) : Option Ret :=
  oK (cloneS.dec [AV.slc d_Last_x (List.map (mkV false [Lf.fs]) d_Last)] []) fun (d0 : Bool × List (List UInt8)) =>
  bK (List.map (mkV false [Lf.fs]) (cloneF d0).snd).isEmpty
    (oK (clonS.dec [AV.slc d_Wait_x (List.map (mkV true Put_tfs) d_Wait)] []) fun (d1 : Bool × List (Int × List UInt8)) =>
      bK (List.map (mkV true Put_tfs) (cloneG d1).snd).isEmpty (bK (!d_Down) (bK (decide (0 ≤ i)) (bK (!decide (i < 0)) (some { pan := false, res := AV.tup [AV.agg [AV.slc true [], AV.slc true [], AV.int IntKind.i64 d_Arm, AV.bool d_Down], AV.bool false], out := [], new := [] }) (bK (!decide ((↑b.length : Int) = 32)) (some { pan := false, res := AV.tup [AV.agg [AV.slc true [], AV.slc true [], AV.int IntKind.i64 d_Arm, AV.bool d_Down], AV.bool false], out := [], new := [] }) (bK (decide (0 < d_Arm)) (some { pan := false, res := AV.tup [AV.agg [AV.slc true [], AV.slc false [AV.agg [AV.int IntKind.i64 i, AV.str b]], AV.int IntKind.i64 (IntKind.i64.wrap (d_Arm - 1)), AV.bool (decide (IntKind.i64.wrap (d_Arm - 1) = 0))], AV.bool !decide (IntKind.i64.wrap (d_Arm - 1) = 0)], out := [], new := [] }) (some { pan := false, res := AV.tup [AV.agg [AV.slc true [], AV.slc false [AV.agg [AV.int IntKind.i64 i, AV.str b]], AV.int IntKind.i64 d_Arm, AV.bool d_Down], AV.bool !d_Down], out := [], new := [] })))) (some { pan := false, res := AV.tup [AV.agg [AV.slc true [], AV.slc true [], AV.int IntKind.i64 d_Arm, AV.bool d_Down], AV.bool false], out := [], new := [] })) (some { pan := false, res := AV.tup [AV.agg [AV.slc true [], AV.slc true [], AV.int IntKind.i64 d_Arm, AV.bool d_Down], AV.bool false], out := [], new := [] }))
        (bK (decide (0 + (List.map (mkV true Put_tfs) (cloneG d1).snd).length ≤ (List.map (mkV true Put_tfs) (cloneG d1).snd).length))
          (bK (!d_Down)
            (bK (decide (0 ≤ i))
              (bK (!decide (i < 0)) (bK (decide (0 + (List.map (mkV true Put_tfs) (cloneG d1).snd).length ≤ (List.map (mkV true Put_tfs) (cloneG d1).snd).length)) (some { pan := false, res := AV.tup [AV.agg [AV.slc true [], AV.slc false (List.take (List.map (mkV true Put_tfs) (cloneG d1).snd).length (List.drop 0 (List.map (mkV true Put_tfs) (cloneG d1).snd))), AV.int IntKind.i64 d_Arm, AV.bool d_Down], AV.bool false], out := [], new := [] }) none)
                (bK (!decide ((↑b.length : Int) = 32)) (bK (decide (0 + (List.map (mkV true Put_tfs) (cloneG d1).snd).length ≤ (List.map (mkV true Put_tfs) (cloneG d1).snd).length)) (some { pan := false, res := AV.tup [AV.agg [AV.slc true [], AV.slc false (List.take (List.map (mkV true Put_tfs) (cloneG d1).snd).length (List.drop 0 (List.map (mkV true Put_tfs) (cloneG d1).snd))), AV.int IntKind.i64 d_Arm, AV.bool d_Down], AV.bool false], out := [], new := [] }) none)
                  (bK (decide (0 + (List.map (mkV true Put_tfs) (cloneG d1).snd).length ≤ (List.map (mkV true Put_tfs) (cloneG d1).snd).length))
                    (bK (decide (0 = 0 ∧ (List.map (mkV true Put_tfs) (cloneG d1).snd).length = (List.map (mkV true Put_tfs) (cloneG d1).snd).length) && bytesFit Try.prog 54 ((List.map (mkV true Put_tfs) (cloneG d1).snd).length + 1))
                      (bK (decide (0 < d_Arm)) (bK (decide (0 + ((List.map (mkV true Put_tfs) (cloneG d1).snd).length + 1) ≤ (List.take (List.map (mkV true Put_tfs) (cloneG d1).snd).length (List.map (mkV true Put_tfs) (cloneG d1).snd) ++ [AV.agg [AV.int IntKind.i64 i, AV.str b]]).length)) (some { pan := false, res := AV.tup [AV.agg [AV.slc true [], AV.slc false (List.take ((List.map (mkV true Put_tfs) (cloneG d1).snd).length + 1) (List.drop 0 (List.take (List.map (mkV true Put_tfs) (cloneG d1).snd).length (List.map (mkV true Put_tfs) (cloneG d1).snd) ++ [AV.agg [AV.int IntKind.i64 i, AV.str b]]))), AV.int IntKind.i64 (IntKind.i64.wrap (d_Arm - 1)), AV.bool (decide (IntKind.i64.wrap (d_Arm - 1) = 0))], AV.bool !decide (IntKind.i64.wrap (d_Arm - 1) = 0)], out := [], new := [] }) none) (bK (decide (0 + ((List.map (mkV true Put_tfs) (cloneG d1).snd).length + 1) ≤ (List.take (List.map (mkV true Put_tfs) (cloneG d1).snd).length (List.map (mkV true Put_tfs) (cloneG d1).snd) ++ [AV.agg [AV.int IntKind.i64 i, AV.str b]]).length)) (some { pan := false, res := AV.tup [AV.agg [AV.slc true [], AV.slc false (List.take ((List.map (mkV true Put_tfs) (cloneG d1).snd).length + 1) (List.drop 0 (List.take (List.map (mkV true Put_tfs) (cloneG d1).snd).length (List.map (mkV true Put_tfs) (cloneG d1).snd) ++ [AV.agg [AV.int IntKind.i64 i, AV.str b]]))), AV.int IntKind.i64 d_Arm, AV.bool d_Down], AV.bool !d_Down], out := [], new := [] }) none)) none)
                    none)))
              (bK (decide (0 + (List.map (mkV true Put_tfs) (cloneG d1).snd).length ≤ (List.map (mkV true Put_tfs) (cloneG d1).snd).length)) (some { pan := false, res := AV.tup [AV.agg [AV.slc true [], AV.slc false (List.take (List.map (mkV true Put_tfs) (cloneG d1).snd).length (List.drop 0 (List.map (mkV true Put_tfs) (cloneG d1).snd))), AV.int IntKind.i64 d_Arm, AV.bool d_Down], AV.bool false], out := [], new := [] }) none))
            (bK (decide (0 + (List.map (mkV true Put_tfs) (cloneG d1).snd).length ≤ (List.map (mkV true Put_tfs) (cloneG d1).snd).length)) (some { pan := false, res := AV.tup [AV.agg [AV.slc true [], AV.slc false (List.take (List.map (mkV true Put_tfs) (cloneG d1).snd).length (List.drop 0 (List.map (mkV true Put_tfs) (cloneG d1).snd))), AV.int IntKind.i64 d_Arm, AV.bool d_Down], AV.bool false], out := [], new := [] }) none))
          none))
    (oK (clonS.dec [AV.slc d_Wait_x (List.map (mkV true Put_tfs) d_Wait)] []) fun (d2 : Bool × List (Int × List UInt8)) =>
      bK (List.map (mkV true Put_tfs) (cloneG d2).snd).isEmpty
        (bK (decide (0 + (List.map (mkV false [Lf.fs]) (cloneF d0).snd).length ≤ (List.map (mkV false [Lf.fs]) (cloneF d0).snd).length))
          (bK (!d_Down)
            (bK (decide (0 ≤ i))
              (bK (!decide (i < (↑(List.take (List.map (mkV false [Lf.fs]) (cloneF d0).snd).length (List.drop 0 (List.map (mkV false [Lf.fs]) (cloneF d0).snd))).length : Int))) (bK (decide (0 + (List.map (mkV false [Lf.fs]) (cloneF d0).snd).length ≤ (List.map (mkV false [Lf.fs]) (cloneF d0).snd).length)) (some { pan := false, res := AV.tup [AV.agg [AV.slc false (List.take (List.map (mkV false [Lf.fs]) (cloneF d0).snd).length (List.drop 0 (List.map (mkV false [Lf.fs]) (cloneF d0).snd))), AV.slc true [], AV.int IntKind.i64 d_Arm, AV.bool d_Down], AV.bool false], out := [], new := [] }) none)
                (bK (!decide ((↑b.length : Int) = 32)) (bK (decide (0 + (List.map (mkV false [Lf.fs]) (cloneF d0).snd).length ≤ (List.map (mkV false [Lf.fs]) (cloneF d0).snd).length)) (some { pan := false, res := AV.tup [AV.agg [AV.slc false (List.take (List.map (mkV false [Lf.fs]) (cloneF d0).snd).length (List.drop 0 (List.map (mkV false [Lf.fs]) (cloneF d0).snd))), AV.slc true [], AV.int IntKind.i64 d_Arm, AV.bool d_Down], AV.bool false], out := [], new := [] }) none)
                  (bK (decide (0 < d_Arm)) (bK (decide (0 + (List.map (mkV false [Lf.fs]) (cloneF d0).snd).length ≤ (List.map (mkV false [Lf.fs]) (cloneF d0).snd).length)) (some { pan := false, res := AV.tup [AV.agg [AV.slc false (List.take (List.map (mkV false [Lf.fs]) (cloneF d0).snd).length (List.drop 0 (List.map (mkV false [Lf.fs]) (cloneF d0).snd))), AV.slc false [AV.agg [AV.int IntKind.i64 i, AV.str b]], AV.int IntKind.i64 (IntKind.i64.wrap (d_Arm - 1)), AV.bool (decide (IntKind.i64.wrap (d_Arm - 1) = 0))], AV.bool !decide (IntKind.i64.wrap (d_Arm - 1) = 0)], out := [], new := [] }) none) (bK (decide (0 + (List.map (mkV false [Lf.fs]) (cloneF d0).snd).length ≤ (List.map (mkV false [Lf.fs]) (cloneF d0).snd).length)) (some { pan := false, res := AV.tup [AV.agg [AV.slc false (List.take (List.map (mkV false [Lf.fs]) (cloneF d0).snd).length (List.drop 0 (List.map (mkV false [Lf.fs]) (cloneF d0).snd))), AV.slc false [AV.agg [AV.int IntKind.i64 i, AV.str b]], AV.int IntKind.i64 d_Arm, AV.bool d_Down], AV.bool !d_Down], out := [], new := [] }) none))))
              (bK (decide (0 + (List.map (mkV false [Lf.fs]) (cloneF d0).snd).length ≤ (List.map (mkV false [Lf.fs]) (cloneF d0).snd).length)) (some { pan := false, res := AV.tup [AV.agg [AV.slc false (List.take (List.map (mkV false [Lf.fs]) (cloneF d0).snd).length (List.drop 0 (List.map (mkV false [Lf.fs]) (cloneF d0).snd))), AV.slc true [], AV.int IntKind.i64 d_Arm, AV.bool d_Down], AV.bool false], out := [], new := [] }) none))
            (bK (decide (0 + (List.map (mkV false [Lf.fs]) (cloneF d0).snd).length ≤ (List.map (mkV false [Lf.fs]) (cloneF d0).snd).length)) (some { pan := false, res := AV.tup [AV.agg [AV.slc false (List.take (List.map (mkV false [Lf.fs]) (cloneF d0).snd).length (List.drop 0 (List.map (mkV false [Lf.fs]) (cloneF d0).snd))), AV.slc true [], AV.int IntKind.i64 d_Arm, AV.bool d_Down], AV.bool false], out := [], new := [] }) none))
          none)
        (bK (decide (0 + (List.map (mkV false [Lf.fs]) (cloneF d0).snd).length ≤ (List.map (mkV false [Lf.fs]) (cloneF d0).snd).length))
          (bK (decide (0 + (List.map (mkV true Put_tfs) (cloneG d2).snd).length ≤ (List.map (mkV true Put_tfs) (cloneG d2).snd).length))
            (bK (!d_Down)
              (bK (decide (0 ≤ i))
                (bK (!decide (i < (↑(List.take (List.map (mkV false [Lf.fs]) (cloneF d0).snd).length (List.drop 0 (List.map (mkV false [Lf.fs]) (cloneF d0).snd))).length : Int))) (bK (decide (0 + (List.map (mkV false [Lf.fs]) (cloneF d0).snd).length ≤ (List.map (mkV false [Lf.fs]) (cloneF d0).snd).length)) (bK (decide (0 + (List.map (mkV true Put_tfs) (cloneG d2).snd).length ≤ (List.map (mkV true Put_tfs) (cloneG d2).snd).length)) (some { pan := false, res := AV.tup [AV.agg [AV.slc false (List.take (List.map (mkV false [Lf.fs]) (cloneF d0).snd).length (List.drop 0 (List.map (mkV false [Lf.fs]) (cloneF d0).snd))), AV.slc false (List.take (List.map (mkV true Put_tfs) (cloneG d2).snd).length (List.drop 0 (List.map (mkV true Put_tfs) (cloneG d2).snd))), AV.int IntKind.i64 d_Arm, AV.bool d_Down], AV.bool false], out := [], new := [] }) none) none)
                  (bK (!decide ((↑b.length : Int) = 32)) (bK (decide (0 + (List.map (mkV false [Lf.fs]) (cloneF d0).snd).length ≤ (List.map (mkV false [Lf.fs]) (cloneF d0).snd).length)) (bK (decide (0 + (List.map (mkV true Put_tfs) (cloneG d2).snd).length ≤ (List.map (mkV true Put_tfs) (cloneG d2).snd).length)) (some { pan := false, res := AV.tup [AV.agg [AV.slc false (List.take (List.map (mkV false [Lf.fs]) (cloneF d0).snd).length (List.drop 0 (List.map (mkV false [Lf.fs]) (cloneF d0).snd))), AV.slc false (List.take (List.map (mkV true Put_tfs) (cloneG d2).snd).length (List.drop 0 (List.map (mkV true Put_tfs) (cloneG d2).snd))), AV.int IntKind.i64 d_Arm, AV.bool d_Down], AV.bool false], out := [], new := [] }) none) none)
                    (bK (decide (0 + (List.map (mkV true Put_tfs) (cloneG d2).snd).length ≤ (List.map (mkV true Put_tfs) (cloneG d2).snd).length))
                      (bK (decide (0 = 0 ∧ (List.map (mkV true Put_tfs) (cloneG d2).snd).length = (List.map (mkV true Put_tfs) (cloneG d2).snd).length) && bytesFit Try.prog 54 ((List.map (mkV true Put_tfs) (cloneG d2).snd).length + 1))
                        (bK (decide (0 < d_Arm)) (bK (decide (0 + (List.map (mkV false [Lf.fs]) (cloneF d0).snd).length ≤ (List.map (mkV false [Lf.fs]) (cloneF d0).snd).length)) (bK (decide (0 + ((List.map (mkV true Put_tfs) (cloneG d2).snd).length + 1) ≤ (List.take (List.map (mkV true Put_tfs) (cloneG d2).snd).length (List.map (mkV true Put_tfs) (cloneG d2).snd) ++ [AV.agg [AV.int IntKind.i64 i, AV.str b]]).length)) (some { pan := false, res := AV.tup [AV.agg [AV.slc false (List.take (List.map (mkV false [Lf.fs]) (cloneF d0).snd).length (List.drop 0 (List.map (mkV false [Lf.fs]) (cloneF d0).snd))), AV.slc false (List.take ((List.map (mkV true Put_tfs) (cloneG d2).snd).length + 1) (List.drop 0 (List.take (List.map (mkV true Put_tfs) (cloneG d2).snd).length (List.map (mkV true Put_tfs) (cloneG d2).snd) ++ [AV.agg [AV.int IntKind.i64 i, AV.str b]]))), AV.int IntKind.i64 (IntKind.i64.wrap (d_Arm - 1)), AV.bool (decide (IntKind.i64.wrap (d_Arm - 1) = 0))], AV.bool !decide (IntKind.i64.wrap (d_Arm - 1) = 0)], out := [], new := [] }) none) none)
                          (bK (decide (0 + (List.map (mkV false [Lf.fs]) (cloneF d0).snd).length ≤ (List.map (mkV false [Lf.fs]) (cloneF d0).snd).length)) (bK (decide (0 + ((List.map (mkV true Put_tfs) (cloneG d2).snd).length + 1) ≤ (List.take (List.map (mkV true Put_tfs) (cloneG d2).snd).length (List.map (mkV true Put_tfs) (cloneG d2).snd) ++ [AV.agg [AV.int IntKind.i64 i, AV.str b]]).length)) (some { pan := false, res := AV.tup [AV.agg [AV.slc false (List.take (List.map (mkV false [Lf.fs]) (cloneF d0).snd).length (List.drop 0 (List.map (mkV false [Lf.fs]) (cloneF d0).snd))), AV.slc false (List.take ((List.map (mkV true Put_tfs) (cloneG d2).snd).length + 1) (List.drop 0 (List.take (List.map (mkV true Put_tfs) (cloneG d2).snd).length (List.map (mkV true Put_tfs) (cloneG d2).snd) ++ [AV.agg [AV.int IntKind.i64 i, AV.str b]]))), AV.int IntKind.i64 d_Arm, AV.bool d_Down], AV.bool !d_Down], out := [], new := [] }) none) none))
                        none)
                      none)))
                (bK (decide (0 + (List.map (mkV false [Lf.fs]) (cloneF d0).snd).length ≤ (List.map (mkV false [Lf.fs]) (cloneF d0).snd).length)) (bK (decide (0 + (List.map (mkV true Put_tfs) (cloneG d2).snd).length ≤ (List.map (mkV true Put_tfs) (cloneG d2).snd).length)) (some { pan := false, res := AV.tup [AV.agg [AV.slc false (List.take (List.map (mkV false [Lf.fs]) (cloneF d0).snd).length (List.drop 0 (List.map (mkV false [Lf.fs]) (cloneF d0).snd))), AV.slc false (List.take (List.map (mkV true Put_tfs) (cloneG d2).snd).length (List.drop 0 (List.map (mkV true Put_tfs) (cloneG d2).snd))), AV.int IntKind.i64 d_Arm, AV.bool d_Down], AV.bool false], out := [], new := [] }) none) none))
              (bK (decide (0 + (List.map (mkV false [Lf.fs]) (cloneF d0).snd).length ≤ (List.map (mkV false [Lf.fs]) (cloneF d0).snd).length)) (bK (decide (0 + (List.map (mkV true Put_tfs) (cloneG d2).snd).length ≤ (List.map (mkV true Put_tfs) (cloneG d2).snd).length)) (some { pan := false, res := AV.tup [AV.agg [AV.slc false (List.take (List.map (mkV false [Lf.fs]) (cloneF d0).snd).length (List.drop 0 (List.map (mkV false [Lf.fs]) (cloneF d0).snd))), AV.slc false (List.take (List.map (mkV true Put_tfs) (cloneG d2).snd).length (List.drop 0 (List.map (mkV true Put_tfs) (cloneG d2).snd))), AV.int IntKind.i64 d_Arm, AV.bool d_Down], AV.bool false], out := [], new := [] }) none) none))
            none)
          none))
theorem wri_w (d_Last_x : Bool) (d_Last : List (List UInt8)) (d_Wait_x : Bool) (d_Wait : List Put_T) (d_Arm : Int) (d_Down : Bool) (i : Int) (b : List UInt8) : unitQ Try.prog cfg PK2 LP0 false 16 (groupA wri_sh (Tu.mk wri_fs ((d_Last_x, d_Last), (d_Wait_x, d_Wait), d_Arm, d_Down, i, b))) [] = wri_r d_Last_x d_Last d_Wait_x d_Wait d_Arm d_Down i b := by kernel_rfl

end Go.Proofs.Ytlomiepgghlhbaa
