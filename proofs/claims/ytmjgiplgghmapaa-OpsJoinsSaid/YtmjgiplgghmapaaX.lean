/- A part of the proof: contracts of functions. -/
import Derived.Test.YtmjgiplgghmapaaT
import Derived.Test.YtmjgiplgghmapaaAbAny

set_option linter.unusedVariables false
set_option linter.unusedSimpArgs false
set_option maxRecDepth 100000
namespace Go.Proofs.Ytmjgiplgghmapaa
open Go Go.Ab
set_option maxHeartbeats 8000000
abbrev textB_id : Nat := 37
abbrev textB_sh : Shp := [none, none]
abbrev textB_fs : List Lf := [.fl false [.fi .u8], .fs]
abbrev textB_rsh : Shp := [none]
abbrev textB_rfs : List Lf := [.fl false [.fi .u8]]
noncomputable def textB_r (b_x : Bool) (b : List Int) (s : List UInt8) : Option Ret :=
  oK (cloneS.dec [AV.slc b_x (List.map (mkV false [Lf.fi IntKind.u8]) b)] []) fun (d0 : Bool × List Int) =>
  bK (List.map (mkV false [Lf.fi IntKind.u8]) (cloneF d0).snd).isEmpty (bK (decide (255 < (↑s.length : Int))) (some { pan := false, res := AV.slc true [], out := [], new := [] }) (bK ((List.map (fun (c : UInt8) => AV.int IntKind.u8 (↑c.toNat : Int)) s).all fun (y : AV) => decide (y.cells.length = 1)) (bK (List.map (fun (c : UInt8) => AV.int IntKind.u8 (↑c.toNat : Int)) s).isEmpty (some { pan := false, res := AV.slc false [AV.int IntKind.u8 (IntKind.u8.wrap (↑s.length : Int))], out := [], new := [] }) (bK (true && bytesFit Try.prog 5 (1 + (List.map (fun (c : UInt8) => AV.int IntKind.u8 (↑c.toNat : Int)) s).length)) (bK (decide (0 + (1 + (List.map (fun (c : UInt8) => AV.int IntKind.u8 (↑c.toNat : Int)) s).length) ≤ (AV.int IntKind.u8 (IntKind.u8.wrap (↑s.length : Int)) :: List.append._f [] PUnit.unit (List.map (fun (c : UInt8) => AV.int IntKind.u8 (↑c.toNat : Int)) s)).length)) (some { pan := false, res := AV.slc false (List.take (1 + (List.map (fun (c : UInt8) => AV.int IntKind.u8 (↑c.toNat : Int)) s).length) (AV.int IntKind.u8 (IntKind.u8.wrap (↑s.length : Int)) :: List.append._f [] PUnit.unit (List.map (fun (c : UInt8) => AV.int IntKind.u8 (↑c.toNat : Int)) s))), out := [], new := [] }) none) none)) none))
    (bK (decide (255 < (↑s.length : Int))) (bK (decide (0 + (List.map (mkV false [Lf.fi IntKind.u8]) (cloneF d0).snd).length ≤ (List.map (mkV false [Lf.fi IntKind.u8]) (cloneF d0).snd).length)) (some { pan := false, res := AV.slc false (List.take (List.map (mkV false [Lf.fi IntKind.u8]) (cloneF d0).snd).length (List.drop 0 (List.map (mkV false [Lf.fi IntKind.u8]) (cloneF d0).snd))), out := [], new := [] }) none)
      (bK (decide (0 + (List.map (mkV false [Lf.fi IntKind.u8]) (cloneF d0).snd).length ≤ (List.map (mkV false [Lf.fi IntKind.u8]) (cloneF d0).snd).length))
        (bK (decide (0 = 0 ∧ (List.map (mkV false [Lf.fi IntKind.u8]) (cloneF d0).snd).length = (List.map (mkV false [Lf.fi IntKind.u8]) (cloneF d0).snd).length) && bytesFit Try.prog 5 ((List.map (mkV false [Lf.fi IntKind.u8]) (cloneF d0).snd).length + 1))
          (bK ((List.map (fun (c : UInt8) => AV.int IntKind.u8 (↑c.toNat : Int)) s).all fun (y : AV) => decide (y.cells.length = 1))
            (bK (decide (0 + ((List.map (mkV false [Lf.fi IntKind.u8]) (cloneF d0).snd).length + 1) ≤ (List.take (List.map (mkV false [Lf.fi IntKind.u8]) (cloneF d0).snd).length (List.map (mkV false [Lf.fi IntKind.u8]) (cloneF d0).snd) ++ [AV.int IntKind.u8 (IntKind.u8.wrap (↑s.length : Int))]).length))
              (bK (List.map (fun (c : UInt8) => AV.int IntKind.u8 (↑c.toNat : Int)) s).isEmpty (bK (decide (0 + ((List.map (mkV false [Lf.fi IntKind.u8]) (cloneF d0).snd).length + 1) ≤ (List.take (List.map (mkV false [Lf.fi IntKind.u8]) (cloneF d0).snd).length (List.map (mkV false [Lf.fi IntKind.u8]) (cloneF d0).snd) ++ [AV.int IntKind.u8 (IntKind.u8.wrap (↑s.length : Int))]).length)) (some { pan := false, res := AV.slc false (List.take ((List.map (mkV false [Lf.fi IntKind.u8]) (cloneF d0).snd).length + 1) (List.drop 0 (List.take (List.map (mkV false [Lf.fi IntKind.u8]) (cloneF d0).snd).length (List.map (mkV false [Lf.fi IntKind.u8]) (cloneF d0).snd) ++ [AV.int IntKind.u8 (IntKind.u8.wrap (↑s.length : Int))]))), out := [], new := [] }) none)
                (bK (decide (0 = 0 ∧ (List.map (mkV false [Lf.fi IntKind.u8]) (cloneF d0).snd).length + 1 = (List.take (List.map (mkV false [Lf.fi IntKind.u8]) (cloneF d0).snd).length (List.map (mkV false [Lf.fi IntKind.u8]) (cloneF d0).snd) ++ [AV.int IntKind.u8 (IntKind.u8.wrap (↑s.length : Int))]).length) && bytesFit Try.prog 5 ((List.map (mkV false [Lf.fi IntKind.u8]) (cloneF d0).snd).length + 1 + (List.map (fun (c : UInt8) => AV.int IntKind.u8 (↑c.toNat : Int)) s).length))
                  (bK (decide (0 + ((List.map (mkV false [Lf.fi IntKind.u8]) (cloneF d0).snd).length + 1 + (List.map (fun (c : UInt8) => AV.int IntKind.u8 (↑c.toNat : Int)) s).length) ≤ (List.take ((List.map (mkV false [Lf.fi IntKind.u8]) (cloneF d0).snd).length + 1) (List.take (List.map (mkV false [Lf.fi IntKind.u8]) (cloneF d0).snd).length (List.map (mkV false [Lf.fi IntKind.u8]) (cloneF d0).snd) ++ [AV.int IntKind.u8 (IntKind.u8.wrap (↑s.length : Int))]) ++ List.map (fun (c : UInt8) => AV.int IntKind.u8 (↑c.toNat : Int)) s).length)) (some { pan := false, res := AV.slc false (List.take ((List.map (mkV false [Lf.fi IntKind.u8]) (cloneF d0).snd).length + 1 + (List.map (fun (c : UInt8) => AV.int IntKind.u8 (↑c.toNat : Int)) s).length) (List.drop 0 (List.take ((List.map (mkV false [Lf.fi IntKind.u8]) (cloneF d0).snd).length + 1) (List.take (List.map (mkV false [Lf.fi IntKind.u8]) (cloneF d0).snd).length (List.map (mkV false [Lf.fi IntKind.u8]) (cloneF d0).snd) ++ [AV.int IntKind.u8 (IntKind.u8.wrap (↑s.length : Int))]) ++ List.map (fun (c : UInt8) => AV.int IntKind.u8 (↑c.toNat : Int)) s))), out := [], new := [] }) none) none))
              none)
            none)
          none)
        none))
theorem textB_w (b_x : Bool) (b : List Int) (s : List UInt8) : unitQ Try.prog cfg PK7 LP0 false 37 (groupA textB_sh (Tu.mk textB_fs ((b_x, b), s))) [] = textB_r b_x b s := by kernel_rfl

def cB (c : UInt8) : AV := .int .u8 (c.toNat : Int)
theorem mapS (s : List UInt8) : (s.map fun c => (c.toNat : Int)).map (mkV false [.fi .u8]) = s.map cB := by rw [List.map_map]; rfl
theorem allS (s : List UInt8) : ((List.map (fun (c : UInt8) => AV.int IntKind.u8 (c.toNat : Int)) s).all fun (y : AV) => decide (y.cells.length = 1)) = true := by simp [AV.cells]
/-- Bytes with a text behind them. -/
def textL (b : List Int) (s : List UInt8) : List Int := if s.length ≤ 255 then b ++ (IntKind.u8.wrap (s.length : Int) :: s.map fun c => (c.toNat : Int)) else b
def textF (d : (Bool × List Int) × List UInt8) : Bool × List Int := (d.1.2.isEmpty && !(decide (d.2.length ≤ 255)), textL d.1.2 d.2)
noncomputable def textBS : FS := ⟨textB_sh, textB_fs, textB_rsh, textB_rfs, fun d => d.1.2.length ≤ 10000, fun d => textF d, none⟩
theorem textB_v (b_x : Bool) (b : List Int) (s : List UInt8) (h : textBS.pre ((b_x, b), s)) : textB_r b_x b s = some (textBS.ret ((b_x, b), s)) := by
  have h' : b.length ≤ 10000 := h
  show _ = some (textBS.out (textF ((b_x, b), s)))
  unfold textB_r
  refine oK_fsq (Q := fun z => z = _) cloneS (b_x, b) (show b.length ≤ 100000 by omega) ?_
  have hc : (cloneF (b_x, b)).2 = b := rfl
  simp only [hc, allS, bK_T]
  cases b with
  | nil =>
    refine bK_tq (Q := fun z => z = _) rfl ?_
    refine bK_i (fun c => ?_) (fun c => ?_)
    · have : textF ((b_x, []), s) = (true, []) := by unfold textF textL; dsimp only; rw [if_neg (by omega), decide_eq_false (by omega)]; rfl
      rw [this]; rfl
    · have e : textF ((b_x, []), s) = (false, IntKind.u8.wrap (s.length : Int) :: s.map fun c => (c.toNat : Int)) := by unfold textF textL; dsimp only; rw [if_pos (by omega), decide_eq_true (by omega)]; rfl
      have hout : textBS.out (false, IntKind.u8.wrap (s.length : Int) :: s.map fun c => (c.toNat : Int)) = { pan := false, res := AV.slc false (AV.int .u8 (IntKind.u8.wrap (s.length : Int)) :: s.map cB), out := [], new := [] } := by rw [← mapS]; rfl
      rw [e, hout]
      cases s with
      | nil => rfl
      | cons c0 s =>
        refine bK_fq (Q := fun z => z = _) rfl ?_
        obtain ⟨S, hS⟩ : ∃ S, (c0 :: s).map cB = S := ⟨_, rfl⟩
        have hS' : List.map (fun (c : UInt8) => AV.int IntKind.u8 (c.toNat : Int)) (c0 :: s) = S := hS
        have hSl : S.length ≤ 255 := by rw [← hS]; simp at c ⊢; omega
        rw [hS', hS]
        have f1 : bytesFit Try.prog 5 (1 + S.length) = true := fit5 (by omega)
        simp [bK_T, f1, List.take_of_length_le]
        show bK (decide (1 + S.length ≤ S.length + 1)) (some ({ pan := false, res := AV.slc false (List.take (1 + S.length) (AV.int IntKind.u8 (IntKind.u8.wrap ((s.length : Int) + 1)) :: S)), out := [], new := [] } : Ret)) none = _
        rw [bK_pos (by exact decide_eq_true (by omega)), List.take_of_length_le (by simp; omega)]
  | cons d l =>
    have hne : (List.map (mkV false [Lf.fi IntKind.u8]) (d :: l)).isEmpty = false := rfl
    rw [bK_neg hne]
    have hF : textF ((b_x, d :: l), s) = (false, textL (d :: l) s) := rfl
    rw [hF]
    obtain ⟨L, hL⟩ : ∃ L, List.map (mkV false [Lf.fi IntKind.u8]) (d :: l) = L := ⟨_, rfl⟩
    have hl : L.length ≤ 10000 := by rw [← hL]; simpa using h'
    have hout : ∀ m : List Int, textBS.out (false, (d :: l) ++ m) = { pan := false, res := AV.slc false (L ++ m.map (mkV false [.fi .u8])), out := [], new := [] } := fun m => by
      rw [← hL, ← List.map_append]; rfl
    rw [hL]
    refine bK_i (fun c => ?_) (fun c => ?_)
    · have e : textL (d :: l) s = (d :: l) ++ [] := by unfold textL; rw [if_neg (by omega), List.append_nil]
      rw [e, hout]
      simp [bK_T]
    · have e : textL (d :: l) s = (d :: l) ++ (IntKind.u8.wrap (s.length : Int) :: s.map fun c => (c.toNat : Int)) := by unfold textL; rw [if_pos (by omega)]
      rw [e, hout, List.map_cons, mapS]
      have f1 : bytesFit Try.prog 5 (L.length + 1) = true := fit5 (by omega)
      cases s with
      | nil =>
        simp [bK_T, f1, List.take_of_length_le]
        rfl
      | cons c0 s =>
        have hse : (List.map (fun (c : UInt8) => AV.int IntKind.u8 (c.toNat : Int)) (c0 :: s)).isEmpty = false := rfl
        obtain ⟨S, hS⟩ : ∃ S, (c0 :: s).map cB = S := ⟨_, rfl⟩
        have hS' : List.map (fun (c : UInt8) => AV.int IntKind.u8 (c.toNat : Int)) (c0 :: s) = S := hS
        have hSl : S.length ≤ 255 := by rw [← hS]; simp at c ⊢; omega
        have hSe : S.isEmpty = false := by rw [← hS]; rfl
        rw [hS', hS]
        have f2 : bytesFit Try.prog 5 (L.length + 1 + S.length) = true := fit5 (by omega)
        simp only [hSe, bK_F]
        simp [bK_T, f1, f2, List.take_of_length_le]
        rw [bK_pos (by exact decide_eq_true (by omega)), List.take_of_length_le (by simp; omega)]
        rfl
theorem textB_ok : ∀ (d : Tu textB_fs), textBS.pre d → unitQ Try.prog cfg PK7 LP0 false 37 (textBS.args d) [] = some (textBS.ret d)
  | ((b_x, b), s), h => (textB_w b_x b s).trans (textB_v b_x b s h)
noncomputable def PK8 : PKs := PK7.add 37 textBS.pk
theorem PK8_ok : PKsOk Try.prog PK8 := PKsOk.fs (cfg := cfg) PK7_ok (fnOk PK7_ok 21) 37 rfl LP0 fLoops_none textBS textB_ok

abbrev textR_id : Nat := 41
abbrev textR_sh : Shp := [none, none]
abbrev textR_fs : List Lf := [.fl false [.fi .u8], .fs]
abbrev textR_rsh : Shp := [none]
abbrev textR_rfs : List Lf := [.fl false [.fi .u8]]
noncomputable def textR_r (b_x : Bool) (b : List Int) (s : List UInt8) : Option Ret :=
  bK ((List.map (mkV false [Lf.fi IntKind.u8]) b).all fun (y : AV) => decide (y.cells.length = 1))
  (bK (List.map (mkV false [Lf.fi IntKind.u8]) b).isEmpty (bK (decide (255 < (↑s.length : Int))) (some { pan := false, res := AV.slc false [], out := [], new := [] }) (bK ((List.map (fun (c : UInt8) => AV.int IntKind.u8 (↑c.toNat : Int)) s).all fun (y : AV) => decide (y.cells.length = 1)) (bK (List.map (fun (c : UInt8) => AV.int IntKind.u8 (↑c.toNat : Int)) s).isEmpty (some { pan := false, res := AV.slc false [AV.int IntKind.u8 (IntKind.u8.wrap (↑s.length : Int))], out := [], new := [] }) (bK (true && bytesFit Try.prog 5 (1 + (List.map (fun (c : UInt8) => AV.int IntKind.u8 (↑c.toNat : Int)) s).length)) (bK (decide (0 + (1 + (List.map (fun (c : UInt8) => AV.int IntKind.u8 (↑c.toNat : Int)) s).length) ≤ (AV.int IntKind.u8 (IntKind.u8.wrap (↑s.length : Int)) :: List.append._f [] PUnit.unit (List.map (fun (c : UInt8) => AV.int IntKind.u8 (↑c.toNat : Int)) s)).length)) (some { pan := false, res := AV.slc false (List.take (1 + (List.map (fun (c : UInt8) => AV.int IntKind.u8 (↑c.toNat : Int)) s).length) (AV.int IntKind.u8 (IntKind.u8.wrap (↑s.length : Int)) :: List.append._f [] PUnit.unit (List.map (fun (c : UInt8) => AV.int IntKind.u8 (↑c.toNat : Int)) s))), out := [], new := [] }) none) none)) none))
    (bK (true && bytesFit Try.prog 5 (0 + (List.map (mkV false [Lf.fi IntKind.u8]) b).length))
      (bK (decide (255 < (↑s.length : Int))) (bK (decide (0 + (0 + (List.map (mkV false [Lf.fi IntKind.u8]) b).length) ≤ ([] ++ List.map (mkV false [Lf.fi IntKind.u8]) b).length)) (some { pan := false, res := AV.slc false (List.take (0 + (List.map (mkV false [Lf.fi IntKind.u8]) b).length) (List.drop 0 ([] ++ List.map (mkV false [Lf.fi IntKind.u8]) b))), out := [], new := [] }) none)
        (bK (decide (0 + (0 + (List.map (mkV false [Lf.fi IntKind.u8]) b).length) ≤ ([] ++ List.map (mkV false [Lf.fi IntKind.u8]) b).length))
          (bK (decide (0 = 0 ∧ 0 + (List.map (mkV false [Lf.fi IntKind.u8]) b).length = ([] ++ List.map (mkV false [Lf.fi IntKind.u8]) b).length) && bytesFit Try.prog 5 (0 + (List.map (mkV false [Lf.fi IntKind.u8]) b).length + 1))
            (bK ((List.map (fun (c : UInt8) => AV.int IntKind.u8 (↑c.toNat : Int)) s).all fun (y : AV) => decide (y.cells.length = 1))
              (bK (decide (0 + (0 + (List.map (mkV false [Lf.fi IntKind.u8]) b).length + 1) ≤ (List.take (0 + (List.map (mkV false [Lf.fi IntKind.u8]) b).length) ([] ++ List.map (mkV false [Lf.fi IntKind.u8]) b) ++ [AV.int IntKind.u8 (IntKind.u8.wrap (↑s.length : Int))]).length))
                (bK (List.map (fun (c : UInt8) => AV.int IntKind.u8 (↑c.toNat : Int)) s).isEmpty (bK (decide (0 + (0 + (List.map (mkV false [Lf.fi IntKind.u8]) b).length + 1) ≤ (List.take (0 + (List.map (mkV false [Lf.fi IntKind.u8]) b).length) ([] ++ List.map (mkV false [Lf.fi IntKind.u8]) b) ++ [AV.int IntKind.u8 (IntKind.u8.wrap (↑s.length : Int))]).length)) (some { pan := false, res := AV.slc false (List.take (0 + (List.map (mkV false [Lf.fi IntKind.u8]) b).length + 1) (List.drop 0 (List.take (0 + (List.map (mkV false [Lf.fi IntKind.u8]) b).length) ([] ++ List.map (mkV false [Lf.fi IntKind.u8]) b) ++ [AV.int IntKind.u8 (IntKind.u8.wrap (↑s.length : Int))]))), out := [], new := [] }) none)
                  (bK (decide (0 = 0 ∧ 0 + (List.map (mkV false [Lf.fi IntKind.u8]) b).length + 1 = (List.take (0 + (List.map (mkV false [Lf.fi IntKind.u8]) b).length) ([] ++ List.map (mkV false [Lf.fi IntKind.u8]) b) ++ [AV.int IntKind.u8 (IntKind.u8.wrap (↑s.length : Int))]).length) && bytesFit Try.prog 5 (0 + (List.map (mkV false [Lf.fi IntKind.u8]) b).length + 1 + (List.map (fun (c : UInt8) => AV.int IntKind.u8 (↑c.toNat : Int)) s).length)) (bK (decide (0 + (0 + (List.map (mkV false [Lf.fi IntKind.u8]) b).length + 1 + (List.map (fun (c : UInt8) => AV.int IntKind.u8 (↑c.toNat : Int)) s).length) ≤ (List.take (0 + (List.map (mkV false [Lf.fi IntKind.u8]) b).length + 1) (List.take (0 + (List.map (mkV false [Lf.fi IntKind.u8]) b).length) ([] ++ List.map (mkV false [Lf.fi IntKind.u8]) b) ++ [AV.int IntKind.u8 (IntKind.u8.wrap (↑s.length : Int))]) ++ List.map (fun (c : UInt8) => AV.int IntKind.u8 (↑c.toNat : Int)) s).length)) (some { pan := false, res := AV.slc false (List.take (0 + (List.map (mkV false [Lf.fi IntKind.u8]) b).length + 1 + (List.map (fun (c : UInt8) => AV.int IntKind.u8 (↑c.toNat : Int)) s).length) (List.drop 0 (List.take (0 + (List.map (mkV false [Lf.fi IntKind.u8]) b).length + 1) (List.take (0 + (List.map (mkV false [Lf.fi IntKind.u8]) b).length) ([] ++ List.map (mkV false [Lf.fi IntKind.u8]) b) ++ [AV.int IntKind.u8 (IntKind.u8.wrap (↑s.length : Int))]) ++ List.map (fun (c : UInt8) => AV.int IntKind.u8 (↑c.toNat : Int)) s))), out := [], new := [] }) none)
                    none))
                none)
              none)
            none)
          none))
      none))
  none
theorem textR_w (b_x : Bool) (b : List Int) (s : List UInt8) : unitQ Try.prog cfg PK8 LP0 false 41 (groupA textR_sh (Tu.mk textR_fs ((b_x, b), s))) [] = textR_r b_x b s := by kernel_rfl

noncomputable def textRS : FS := ⟨textR_sh, textR_fs, textR_rsh, textR_rfs, fun d => d.1.2.length ≤ 10000, fun d => (false, textL d.1.2 d.2), none⟩
theorem textR_v (b_x : Bool) (b : List Int) (s : List UInt8) (h : textRS.pre ((b_x, b), s)) : textR_r b_x b s = some (textRS.ret ((b_x, b), s)) := by
  have h' : b.length ≤ 10000 := h
  show _ = some (textRS.out (false, textL b s))
  unfold textR_r
  rw [bK_pos (by simp [AV.cells, mkV, mkA, Tu.mk, Lf.mk])]
  simp only [allS, bK_T]
  cases b with
  | nil =>
    refine bK_tq (Q := fun z => z = _) rfl ?_
    refine bK_i (fun c => ?_) (fun c => ?_)
    · have : textL [] s = [] := by unfold textL; rw [if_neg (by omega)]
      rw [this]; rfl
    · have e : textL [] s = IntKind.u8.wrap (s.length : Int) :: s.map fun c => (c.toNat : Int) := by unfold textL; rw [if_pos (by omega)]; rfl
      have hout : textRS.out (false, IntKind.u8.wrap (s.length : Int) :: s.map fun c => (c.toNat : Int)) = { pan := false, res := AV.slc false (AV.int .u8 (IntKind.u8.wrap (s.length : Int)) :: s.map cB), out := [], new := [] } := by rw [← mapS]; rfl
      rw [e, hout]
      cases s with
      | nil => rfl
      | cons c0 s =>
        refine bK_fq (Q := fun z => z = _) rfl ?_
        obtain ⟨S, hS⟩ : ∃ S, (c0 :: s).map cB = S := ⟨_, rfl⟩
        have hS' : List.map (fun (c : UInt8) => AV.int IntKind.u8 (c.toNat : Int)) (c0 :: s) = S := hS
        have hSl : S.length ≤ 255 := by rw [← hS]; simp at c ⊢; omega
        rw [hS', hS]
        have f1 : bytesFit Try.prog 5 (1 + S.length) = true := fit5 (by omega)
        simp [bK_T, f1, List.take_of_length_le]
        show bK (decide (1 + S.length ≤ S.length + 1)) (some ({ pan := false, res := AV.slc false (List.take (1 + S.length) (AV.int IntKind.u8 (IntKind.u8.wrap ((s.length : Int) + 1)) :: S)), out := [], new := [] } : Ret)) none = _
        rw [bK_pos (by exact decide_eq_true (by omega)), List.take_of_length_le (by simp; omega)]
  | cons d l =>
    have hne : (List.map (mkV false [Lf.fi IntKind.u8]) (d :: l)).isEmpty = false := rfl
    rw [bK_neg hne]
    obtain ⟨L, hL⟩ : ∃ L, List.map (mkV false [Lf.fi IntKind.u8]) (d :: l) = L := ⟨_, rfl⟩
    have hl : L.length ≤ 10000 := by rw [← hL]; simpa using h'
    have hout : ∀ m : List Int, textRS.out (false, (d :: l) ++ m) = { pan := false, res := AV.slc false (L ++ m.map (mkV false [.fi .u8])), out := [], new := [] } := fun m => by
      rw [← hL, ← List.map_append]; rfl
    rw [hL]
    simp only [List.nil_append, Nat.zero_add, Bool.true_and]
    rw [bK_pos (fit5 (by omega))]
    refine bK_i (fun c => ?_) (fun c => ?_)
    · have e : textL (d :: l) s = (d :: l) ++ [] := by unfold textL; rw [if_neg (by omega), List.append_nil]
      rw [e, hout]
      simp [bK_T]
    · have e : textL (d :: l) s = (d :: l) ++ (IntKind.u8.wrap (s.length : Int) :: s.map fun c => (c.toNat : Int)) := by unfold textL; rw [if_pos (by omega)]
      rw [e, hout, List.map_cons, mapS]
      have f1 : bytesFit Try.prog 5 (L.length + 1) = true := fit5 (by omega)
      cases s with
      | nil =>
        simp [bK_T, f1, List.take_of_length_le]
        rfl
      | cons c0 s =>
        have hse : (List.map (fun (c : UInt8) => AV.int IntKind.u8 (c.toNat : Int)) (c0 :: s)).isEmpty = false := rfl
        obtain ⟨S, hS⟩ : ∃ S, (c0 :: s).map cB = S := ⟨_, rfl⟩
        have hS' : List.map (fun (c : UInt8) => AV.int IntKind.u8 (c.toNat : Int)) (c0 :: s) = S := hS
        have hSl : S.length ≤ 255 := by rw [← hS]; simp at c ⊢; omega
        have hSe : S.isEmpty = false := by rw [← hS]; rfl
        rw [hS', hS]
        have f2 : bytesFit Try.prog 5 (L.length + 1 + S.length) = true := fit5 (by omega)
        simp only [hSe, bK_F]
        simp [bK_T, f1, f2, List.take_of_length_le]
        rw [bK_pos (by exact decide_eq_true (by omega)), List.take_of_length_le (by simp; omega)]
        rfl
theorem textR_ok : ∀ (d : Tu textR_fs), textRS.pre d → unitQ Try.prog cfg PK8 LP0 false 41 (textRS.args d) [] = some (textRS.ret d)
  | ((b_x, b), s), h => (textR_w b_x b s).trans (textR_v b_x b s h)
noncomputable def PK9 : PKs := PK8.add 41 textRS.pk
theorem PK9_ok : PKsOk Try.prog PK9 := PKsOk.fs (cfg := cfg) PK8_ok (fnOk PK8_ok 21) 41 rfl LP0 fLoops_none textRS textR_ok

theorem nd {p : Prop} [Decidable p] (h : p) : (!decide p) = false := by rw [decide_eq_true h]; rfl
theorem nb (a : Bool) : (!(a == a)) = false := by cases a <;> rfl
theorem wf8 {l : List Int} (h : ∀ d ∈ l, Tu.wf [.fi .u8] d) : byt l := fun v hv => by
  have : (0 : Int) ≤ v ∧ v ≤ 255 := h v hv
  omega

end Go.Proofs.Ytmjgiplgghmapaa
