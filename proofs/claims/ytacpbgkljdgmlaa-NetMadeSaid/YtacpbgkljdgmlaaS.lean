/- A part of the proof: contracts of functions. -/
import Derived.Test.YtacpbgkljdgmlaaR
import Derived.Test.YtacpbgkljdgmlaaAbAny

set_option linter.unusedVariables false
set_option linter.unusedSimpArgs false
set_option maxRecDepth 100000
namespace Go.Proofs.Ytacpbgkljdgmlaa
open Go Go.Ab
noncomputable def D1 : PKs := C2.add 8 sendS.pk
theorem D1_ok : PKsOk Try.prog D1 := PKsOk.anyF C2_ok 8 sendS sendO
noncomputable def D2 : PKs := C3.add 8 sendS.pk
theorem D2_ok : PKsOk Try.prog D2 := PKsOk.anyF C3_ok 8 sendS sendO
noncomputable def twice0 (x : Bool) (i : Int) : Option Ret := unitQ Try.prog cfg D2 LP0 false 13 [.slc x [], .int .i64 i] []
noncomputable def twice0_r (x : Bool) (i : Int) : Option Ret :=
  bK (decide (0 ≤ i)) (bK (!decide (i < 0)) (some { pan := false, res := AV.tup [AV.slc true [], AV.bool false], out := [], new := [] }) (oK (elemAt true Gram_tfs [] i) fun (d0 : Int × List UInt8 × Bool) => oK (sendS.dec [AV.slc x [], AV.agg [AV.int IntKind.i64 d0.fst, AV.str d0.snd.fst, AV.bool d0.snd.snd]] []) fun (d1 : (Bool × List (Int × List UInt8 × Bool)) × Int × List UInt8 × Bool) => some { pan := false, res := AV.tup [AV.slc false (List.map (mkV true Gram_tfs) (sendF d1.fst.snd d1.snd)), AV.bool true], out := [], new := [] })) (some { pan := false, res := AV.tup [AV.slc true [], AV.bool false], out := [], new := [] })
theorem twice0_w (x : Bool) (i : Int) : twice0 x i = twice0_r x i := by kernel_rfl

abbrev twice_id : Nat := 13
abbrev twice_sh : Shp := [none, none]
abbrev twice_fs : List Lf := [.fl true Gram_tfs, .fi .i64]
abbrev twice_rsh : Shp := [none, none]
abbrev twice_rfs : List Lf := [.fl true Gram_tfs, .fb]
noncomputable def twice_r (l_x : Bool) (l : List Gram_T) (i : Int) : Option Ret :=
  bK (decide (0 ≤ i)) (bK (!decide (i < (↑(List.map (mkV true Gram_tfs) l).length : Int))) (oK (clP.dec [AV.slc l_x (List.map (mkV true Gram_tfs) l)] []) fun (d0 : Bool × List (Int × List UInt8 × Bool)) => bK (decide (0 + (List.map (mkV true Gram_tfs) d0.snd).length ≤ (List.map (mkV true Gram_tfs) d0.snd).length)) (some { pan := false, res := AV.tup [AV.slc false (List.take (List.map (mkV true Gram_tfs) d0.snd).length (List.drop 0 (List.map (mkV true Gram_tfs) d0.snd))), AV.bool false], out := [], new := [] }) none) (bK (decide (40 ≤ (↑(List.map (mkV true Gram_tfs) l).length : Int))) (oK (clP.dec [AV.slc l_x (List.map (mkV true Gram_tfs) l)] []) fun (d1 : Bool × List (Int × List UInt8 × Bool)) => bK (decide (0 + (List.map (mkV true Gram_tfs) d1.snd).length ≤ (List.map (mkV true Gram_tfs) d1.snd).length)) (some { pan := false, res := AV.tup [AV.slc false (List.take (List.map (mkV true Gram_tfs) d1.snd).length (List.drop 0 (List.map (mkV true Gram_tfs) d1.snd))), AV.bool false], out := [], new := [] }) none) (oK (elemAt true Gram_tfs (List.map (mkV true Gram_tfs) l) i) fun (d2 : Int × List UInt8 × Bool) => oK (sendS.dec [AV.slc l_x (List.map (mkV true Gram_tfs) l), AV.agg [AV.int IntKind.i64 d2.fst, AV.str d2.snd.fst, AV.bool d2.snd.snd]] []) fun (d3 : (Bool × List (Int × List UInt8 × Bool)) × Int × List UInt8 × Bool) => some { pan := false, res := AV.tup [AV.slc false (List.map (mkV true Gram_tfs) (sendF d3.fst.snd d3.snd)), AV.bool true], out := [], new := [] })))
  (oK (clP.dec [AV.slc l_x (List.map (mkV true Gram_tfs) l)] []) fun (d4 : Bool × List (Int × List UInt8 × Bool)) => bK (decide (0 + (List.map (mkV true Gram_tfs) d4.snd).length ≤ (List.map (mkV true Gram_tfs) d4.snd).length)) (some { pan := false, res := AV.tup [AV.slc false (List.take (List.map (mkV true Gram_tfs) d4.snd).length (List.drop 0 (List.map (mkV true Gram_tfs) d4.snd))), AV.bool false], out := [], new := [] }) none)
theorem twice_w (l_x : Bool) (l : List Gram_T) (i : Int) : unitQ Try.prog cfg D1 LP0 false 13 (groupA twice_sh (Tu.mk twice_fs ((l_x, l), i))) [] = twice_r l_x l i := by kernel_rfl

/-- There twice. -/
def twiceF (l : List Gram_T) (i : Int) : List Gram_T × Bool := if (0 ≤ i ∧ i < (l.length : Int)) ∧ l.length < 40 then (sendF l (l.getD i.toNat zG), true) else (l, false)
noncomputable def twiceS : FS := ⟨twice_sh, twice_fs, twice_rsh, twice_rfs, fun d => d.1.2.length ≤ 100000, fun d => ((d.1.2.isEmpty, (twiceF d.1.2 d.2).1), (twiceF d.1.2 d.2).2), none⟩
theorem twiceO : ∀ d : Tu twiceS.fs, twiceS.pre d → CallOk Try.prog 13 (twiceS.args d) [] (twiceS.ret d) := by
  rintro ⟨⟨x, l⟩, i⟩ h
  have h' : l.length ≤ 100000 := h
  by_cases h0 : l = []
  · subst h0
    refine CallOk.unit (fnOk D2_ok 21) rfl fLoops_none (o := false) (by show 0 ≤ 1000; decide) ((twice0_w x i).trans ?_)
    have e : twiceF [] i = ([], false) := by unfold twiceF; rw [if_neg (by rintro ⟨⟨h1, h2⟩, _⟩; simp at h2; omega)]
    show _ = some (twiceS.out ((true, (twiceF [] i).1), (twiceF [] i).2))
    rw [e]
    unfold twice0_r
    refine bK_i (fun c => ?_) (fun c => rfl)
    rw [bK_pos (by simp; omega)]
    rfl
  have h1 : 1 ≤ l.length := List.length_pos_iff.2 h0
  have he : l.isEmpty = false := by simpa using h0
  refine CallOk.unit (fnOk D1_ok 21) rfl fLoops_none (o := false) (by show 0 ≤ 1000; decide) ((twice_w x l i).trans ?_)
  show _ = some (twiceS.out ((l.isEmpty, (twiceF l i).1), (twiceF l i).2))
  rw [he]
  have no : ¬ ((0 ≤ i ∧ i < (l.length : Int)) ∧ l.length < 40) → (oK (clP.dec [AV.slc x (List.map (mkV true Gram_tfs) l)] []) fun (d0 : Bool × List Gram_T) => bK (decide (0 + (List.map (mkV true Gram_tfs) d0.snd).length ≤ (List.map (mkV true Gram_tfs) d0.snd).length)) (some { pan := false, res := AV.tup [AV.slc false (List.take (List.map (mkV true Gram_tfs) d0.snd).length (List.drop 0 (List.map (mkV true Gram_tfs) d0.snd))), AV.bool false], out := [], new := [] }) none) = some (twiceS.out ((false, (twiceF l i).1), (twiceF l i).2)) := by
    intro hn
    have : twiceF l i = (l, false) := by unfold twiceF; rw [if_neg hn]
    rw [this]
    refine oK_pkq (Q := fun z => z = _) cl_inj (x, l) ⟨h1, h'⟩ ?_
    dsimp only
    rw [bK_pos (by simp), List.drop_zero, List.take_length]
    rfl
  unfold twice_r
  refine bK_i (fun c => ?_) (fun c => no (fun hh => c hh.1.1))
  refine bK_n (fun c2 => no (fun hh => c2 (by simpa using hh.1.2))) (fun c2 => ?_)
  refine bK_i (fun c3 => no (fun hh => by have := hh.2; simp at c3; omega)) (fun c3 => ?_)
  rw [List.length_map] at c2 c3
  refine oK_atq (Q := fun z => z = _) (fs := Gram_tfs) zG c (by omega) ?_
  refine oK_fsq (Q := fun z => z = _) sendS ((x, l), l.getD i.toNat zG) h' ?_
  have : twiceF l i = (sendF l (l.getD i.toNat zG), true) := by unfold twiceF; rw [if_pos ⟨⟨c, c2⟩, by omega⟩]
  rw [this]
  rfl
/-- Turned. -/
def turnedF (l : List Gram_T) (i t : Int) : List Gram_T × Bool :=
  if (0 ≤ i ∧ i < (l.length : Int)) ∧ noTurn (l.getD i.toNat zG) t = false then (l.set i.toNat ((l.getD i.toNat zG).1, turnB (l.getD i.toNat zG).2.1 t, true), true) else (l, false)
def turnedQ (l : List Gram_T) (i t : Int) : List Gram_T × Bool := turnedF l i t
def okG (l : List Gram_T) (t : Int) : Prop := l.length ≤ 100000 ∧ (∀ g ∈ l, g.2.1.length ≤ 1000) ∧ t < 9223372036854775808
noncomputable def turnedS : FS := ⟨turned_sh, turned_fs, turned_rsh, turned_rfs, fun d => okG d.1.2 d.2.2, fun d => ((d.1.2.isEmpty, (turnedQ d.1.2 d.2.1 d.2.2).1), (turnedQ d.1.2 d.2.1 d.2.2).2), none⟩
theorem turnedO : ∀ d : Tu turnedS.fs, turnedS.pre d → CallOk Try.prog 15 (turnedS.args d) [] (turnedS.ret d) := by
  rintro ⟨⟨x, l⟩, i, t⟩ h
  obtain ⟨h', hb, ht⟩ : l.length ≤ 100000 ∧ (∀ g ∈ l, g.2.1.length ≤ 1000) ∧ t < 9223372036854775808 := h
  by_cases h0 : l = []
  · subst h0
    refine CallOk.unit (fnOk C3_ok 21) rfl fLoops_none (o := false) (by show 0 ≤ 1000; decide) ((turned0_w x i t).trans ?_)
    have e : turnedF [] i t = ([], false) := by unfold turnedF; rw [if_neg (by rintro ⟨⟨h1, h2⟩, _⟩; simp at h2; omega)]
    show _ = some (turnedS.out ((true, (turnedF [] i t).1), (turnedF [] i t).2))
    rw [e]
    unfold turned0_r
    refine bK_i (fun c => ?_) (fun c => rfl)
    rw [bK_pos (by simp; omega)]
    rfl
  have h1 : 1 ≤ l.length := List.length_pos_iff.2 h0
  have he : l.isEmpty = false := by simpa using h0
  refine CallOk.unit (fnOk C2_ok 21) rfl fLoops_none (o := false) (by show 0 ≤ 1000; decide) ((turned_w x l i t).trans ?_)
  show _ = some (turnedS.out ((l.isEmpty, (turnedF l i t).1), (turnedF l i t).2))
  rw [he]
  unfold turned_r
  refine oK_pkq (Q := fun z => z = _) cl_inj (x, l) ⟨h1, h'⟩ ?_
  dsimp only
  have no : ¬ ((0 ≤ i ∧ i < (l.length : Int)) ∧ noTurn (l.getD i.toNat zG) t = false) → turnedF l i t = (l, false) := fun hn => by unfold turnedF; rw [if_neg hn]
  refine bK_i (fun c => ?_) (fun c => ?_)
  · refine bK_n (fun c2 => ?_) (fun c2 => ?_)
    · rw [no (fun hh => c2 (by simpa using hh.1.2)), bK_pos (by simp), List.drop_zero, List.take_length]
      rfl
    · rw [List.length_map] at c2
      have hi : i.toNat < l.length := by omega
      refine oK_atq (Q := fun z => z = _) (fs := Gram_tfs) zG c hi ?_
      have hg : (l.getD i.toNat zG).2.1.length ≤ 1000 := by rw [getD_at hi]; exact hb _ (List.getElem_mem hi)
      refine oK_pkq (Q := fun z => z = _) tnA_inj (l.getD i.toNat zG, t) ⟨hg, ht⟩ ?_
      have hq : noTurnQ (l.getD i.toNat zG, t) = noTurn (l.getD i.toNat zG) t := rfl
      rw [hq]
      refine bK_b (fun c3 => ?_) (fun c3 => ?_)
      · rw [no (fun hh => by rw [c3] at hh; cases hh.2)]
        refine oK_pkq (Q := fun z => z = _) tnA_inj (l.getD i.toNat zG, t) ⟨hg, ht⟩ ?_
        rw [hq, bK_pos c3]
        refine oK_pkq (Q := fun z => z = _) cl_inj (x, l) ⟨h1, h'⟩ ?_
        dsimp only
        rw [bK_pos (by simp), List.drop_zero, List.take_length]
        rfl
      · have e : turnedF l i t = (l.set i.toNat ((l.getD i.toNat zG).1, turnB (l.getD i.toNat zG).2.1 t, true), true) := by unfold turnedF; rw [if_pos ⟨⟨c, c2⟩, c3⟩]
        rw [e, bK_pos (by simp; omega), Nat.zero_add]
        refine (oK_pos (stRow_map (fs := Gram_tfs) l _ hi ((l.getD i.toNat zG).1, turnB (l.getD i.toNat zG).2.1 t, true))).trans ?_
        rw [bK_pos (by simp), List.drop_zero, List.take_of_length_le (by simp)]
        rfl
  · rw [no (fun hh => c hh.1.1), bK_pos (by simp), List.drop_zero, List.take_length]
    rfl
noncomputable def goneRS : FS := ⟨goneR_sh, goneR_fs, goneR_rsh, goneR_rfs, fun d => d.1.2.length ≤ 100000, fun d => cOut (d.1.1 && !(comesF d.1.2 d.2).2.2) (comesF d.1.2 d.2), none⟩
theorem all3t (l : List Gram_T) (n k : Nat) : ((List.take n (List.drop k (l.map (mkV true Gram_tfs)))).all fun y => decide (y.cells.length = 3)) = true :=
  List.all_eq_true.2 fun x hx => by
    obtain ⟨d, _, rfl⟩ := List.mem_map.1 (List.mem_of_mem_drop (List.mem_of_mem_take hx))
    rfl
theorem emp_nil {α : Type} {l : List α} (h : l.isEmpty = true) : l = [] := by simpa using h
theorem goneRV (x : Bool) (l : List Gram_T) (i : Int) (h' : l.length ≤ 100000) : goneR_r x l i = some (goneRS.out (cOut (x && !(comesF l i).2.2) (comesF l i))) := by
  have no : ¬ (0 ≤ i ∧ i < (l.length : Int)) → some ({ pan := false, res := AV.tup [AV.slc x (l.map (mkV true Gram_tfs)), AV.agg [AV.int .i64 0, AV.str [], AV.bool false], AV.bool false], out := [], new := [] } : Ret) = some (goneRS.out (cOut (x && !(comesF l i).2.2) (comesF l i))) := fun hn => by
    unfold comesF
    rw [if_neg hn]
    cases x <;> rfl
  unfold goneR_r
  refine bK_i (fun c => no (by omega)) (fun c => bK_i (fun c2 => no (by rw [List.length_map] at c2; omega)) (fun c2 => ?_))
  rw [List.length_map] at c2
  obtain ⟨k, rfl⟩ : ∃ k : Nat, i = (k : Int) := ⟨i.toNat, by omega⟩
  have hk : k < l.length := by omega
  have hj : IntKind.i64.wrap ((k : Int) + 1) = ((k + 1 : Nat) : Int) := by rw [w64 (by omega) (by omega)]; omega
  have yes : comesF l (k : Int) = (l.take k ++ l.drop (k + 1), l.getD k zG, true) := by
    unfold comesF
    rw [if_pos ⟨by omega, by omega⟩, Int.toNat_natCast, List.eraseIdx_eq_take_drop_succ]
  rw [yes, Bool.not_true, Bool.and_false]
  have at_ : ∀ {Q : Option Ret → Prop} {f : Gram_T → Option Ret}, Q (f (l.getD k zG)) → Q (oK (elemAt true Gram_tfs (l.map (mkV true Gram_tfs)) (k : Int)) f) := fun hz => oK_atq (fs := Gram_tfs) zG (by omega) (by simpa using hk) (by rw [Int.toNat_natCast]; exact hz)
  have hA : List.take k (List.drop 0 (l.map (mkV true Gram_tfs))) = (l.take k).map (mkV true Gram_tfs) := by rw [List.drop_zero, List.map_take]
  have hB : List.take ((l.map (mkV true Gram_tfs)).length - (k + 1)) (List.drop (k + 1) (l.map (mkV true Gram_tfs))) = (l.drop (k + 1)).map (mkV true Gram_tfs) := by rw [List.take_of_length_le (by simp), List.map_drop]
  have a3 := all3t l
  simp only [hj, Int.toNat_natCast, Nat.sub_zero]
  refine bK_tq (Q := fun z => z = _) (all3 l) (bK_tq (Q := fun z => z = _) (decide_eq_true (by omega)) (bK_tq (Q := fun z => z = _) (by simp; omega) (bK_tq (Q := fun z => z = _) (a3 _ _) ?_)))
  simp only [hA, hB]
  have lA : ((l.take k).map (mkV true Gram_tfs)).length = k := by simp; omega
  have lB : ((l.drop (k + 1)).map (mkV true Gram_tfs)).length = l.length - (k + 1) := by simp
  refine bK_bq (Q := fun z => z = _) (fun cA => ?_) (fun cA => ?_)
  · have nA := emp_nil cA
    have nA' : l.take k = [] := by simpa using nA
    rw [nA', List.nil_append]
    refine bK_tq (Q := fun z => z = _) (decide_eq_true (by omega)) (bK_tq (Q := fun z => z = _) (all3 l) (bK_tq (Q := fun z => z = _) (by simp; omega) (bK_tq (Q := fun z => z = _) (all3 (l.drop (k + 1))) ?_)))
    refine bK_bq (Q := fun z => z = _) (fun cB => ?_) (fun cB => ?_)
    · have nB := emp_nil cB
      have nB' : l.drop (k + 1) = [] := by simpa using nB
      rw [nB']
      exact at_ (Q := fun z => z = _) rfl
    · refine bK_tq (Q := fun z => z = _) (by rw [Bool.true_and]; exact clfit (by omega)) (at_ (Q := fun z => z = _) ?_)
      rw [bK_pos (by simp), List.nil_append, Nat.zero_add, List.drop_zero, List.take_length]
      rfl
  · refine bK_tq (Q := fun z => z = _) (by rw [Bool.true_and]; exact clfit (by omega)) (bK_tq (Q := fun z => z = _) (decide_eq_true (by omega)) (bK_tq (Q := fun z => z = _) (all3 l) (bK_tq (Q := fun z => z = _) (by simp; omega) (bK_tq (Q := fun z => z = _) (all3 (l.drop (k + 1))) (bK_tq (Q := fun z => z = _) (by simp) ?_)))))
    simp only [List.nil_append, Nat.zero_add]
    refine bK_bq (Q := fun z => z = _) (fun cB => ?_) (fun cB => ?_)
    · have nB := emp_nil cB
      have nB' : l.drop (k + 1) = [] := by simpa using nB
      rw [nB', List.append_nil]
      refine at_ (Q := fun z => z = _) ?_
      rw [bK_pos (by simp), List.drop_zero, List.take_length]
      rfl
    · refine bK_tq (Q := fun z => z = _) (by simp only [true_and, decide_true, Bool.true_and]; exact clfit (by omega)) (at_ (Q := fun z => z = _) ?_)
      rw [List.take_length, bK_pos (by simp), List.drop_zero, List.take_of_length_le (by simp), ← List.map_append]
      rfl
theorem goneRO : ∀ d : Tu goneRS.fs, goneRS.pre d → CallOk Try.prog 11 (goneRS.args d) [] (goneRS.ret d)
  | ((x, l), i), h => CallOk.unit (fnOk PKz_ok 21) rfl fLoops_none (o := false) (by show 0 ≤ 1000; decide) ((goneR_w x l i).trans (goneRV x l i h))
theorem stG1 (l : List Gram_T) (i : Nat) (h : i < l.length) (b : List UInt8) : stRow (l.map (mkV true Gram_tfs)) i 1 [.str b] = some ((l.set i (l[i].1, b, l[i].2.2)).map (mkV true Gram_tfs)) := by
  simp [stRow, h, splice, mkV, mkA, AV.cells, AV.recell, Tu.mk, Lf.mk, List.map_set]
theorem stG2 (l : List Gram_T) (i : Nat) (h : i < l.length) (b : Bool) : stRow (l.map (mkV true Gram_tfs)) i 2 [.bool b] = some ((l.set i (l[i].1, l[i].2.1, b)).map (mkV true Gram_tfs)) := by
  simp [stRow, h, splice, mkV, mkA, AV.cells, AV.recell, Tu.mk, Lf.mk, List.map_set]
noncomputable def turnedRS : FS := ⟨turnedR_sh, turnedR_fs, turnedR_rsh, turnedR_rfs, fun d => okG d.1.2 d.2.2, fun d => ((d.1.1 && !(turnedQ d.1.2 d.2.1 d.2.2).2, (turnedQ d.1.2 d.2.1 d.2.2).1), (turnedQ d.1.2 d.2.1 d.2.2).2), none⟩
theorem turnedRV (x : Bool) (l : List Gram_T) (i t : Int) (h' : l.length ≤ 100000) (hb : ∀ g ∈ l, g.2.1.length ≤ 1000) (ht : t < 9223372036854775808) : turnedR_r x l i t = some (turnedRS.out ((x && !(turnedF l i t).2, (turnedF l i t).1), (turnedF l i t).2)) := by
  have no : ¬ ((0 ≤ i ∧ i < (l.length : Int)) ∧ noTurn (l.getD i.toNat zG) t = false) → some ({ pan := false, res := AV.tup [AV.slc x (l.map (mkV true Gram_tfs)), AV.bool false], out := [], new := [] } : Ret) = some (turnedRS.out ((x && !(turnedF l i t).2, (turnedF l i t).1), (turnedF l i t).2)) := fun hn => by
    unfold turnedF
    rw [if_neg hn]
    cases x <;> rfl
  unfold turnedR_r
  refine bK_i (fun c => no (by omega)) (fun c => bK_i (fun c2 => no (by rw [List.length_map] at c2; omega)) (fun c2 => ?_))
  rw [List.length_map] at c2
  have hi : i.toNat < l.length := by omega
  have at_ : ∀ {Q : Option Ret → Prop} {f : Gram_T → Option Ret}, Q (f (l.getD i.toNat zG)) → Q (oK (elemAt true Gram_tfs (l.map (mkV true Gram_tfs)) i) f) := fun hz => oK_atq (fs := Gram_tfs) zG (by omega) hi hz
  have hg : l.getD i.toNat zG = l[i.toNat] := getD_at hi _
  have hB : l[i.toNat].2.1.length ≤ 1000 := hb _ (List.getElem_mem hi)
  refine at_ (Q := fun z => z = _) ?_
  rw [hg]
  refine bK_b (fun c3 => no (fun hh => by have := hh.2; rw [hg] at this; unfold noTurn at this; rw [c3] at this; simp at this)) (fun c3 => ?_)
  refine at_ (Q := fun z => z = _) ?_
  rw [hg]
  refine bK_i (fun c4 => no (fun hh => by
    have := hh.2; rw [hg] at this; unfold noTurn at this
    have e : l[i.toNat].2.1 = [] := List.eq_nil_of_length_eq_zero (by omega)
    rw [e] at this; simp at this)) (fun c4 => ?_)
  refine bK_i (fun c5 => no (fun hh => by have := hh.2; unfold noTurn at this; rw [decide_eq_true c5] at this; simp at this)) (fun c5 => ?_)
  refine bK_i (fun c6 => no (fun hh => by have := hh.2; unfold noTurn at this; rw [decide_eq_true c6] at this; simp at this)) (fun c6 => ?_)
  have hne : l[i.toNat].2.1 ≠ [] := fun e => c4 (by rw [e]; rfl)
  have yn : noTurn (l.getD i.toNat zG) t = false := by
    rw [hg]; unfold noTurn
    rw [c3, decide_eq_false hne, decide_eq_false c5, decide_eq_false c6]
    rfl
  have e : turnedF l i t = (l.set i.toNat (l[i.toNat].1, turnB l[i.toNat].2.1 t, true), true) := by
    unfold turnedF
    rw [if_pos ⟨⟨by omega, by omega⟩, yn⟩, hg]
  rw [e, Bool.not_true, Bool.and_false]
  have hL : (l.map (mkV true Gram_tfs)).isEmpty = false := by
    cases l with
    | nil => simp at hi
    | cons a r => rfl
  refine bK_tq (Q := fun z => z = _) (all3 l) (bK_fq (Q := fun z => z = _) hL (bK_tq (Q := fun z => z = _) (by rw [Bool.true_and]; exact clfit (by simp; omega)) ?_))
  simp only [List.nil_append, Nat.zero_add]
  refine at_ (Q := fun z => z = _) ?_
  rw [hg]
  obtain ⟨k1, k2, k3⟩ := turnK_lt hne (by omega) ht hB
  refine bK_tq (Q := fun z => z = _) (decide_eq_true (by omega)) (bK_tq (Q := fun z => z = _) (by simp) (bK_fq (Q := fun z => z = _) (by simp; exact hne) ?_))
  simp only [List.length_map]
  refine bK_tq (Q := fun z => z = _) (decide_eq_true ⟨k1, k2⟩) ?_
  refine oK_q (Q := fun z => z = _) (ldByte l[i.toNat].2.1 (turnK l[i.toNat].2.1 t) k3) ?_
  refine bK_tq (Q := fun z => z = _) (decide_eq_true ⟨k1, k2⟩) ?_
  rw [turnV_to]
  refine oK_q (Q := fun z => z = _) (stByte l[i.toNat].2.1 (turnK l[i.toNat].2.1 t) k3 _) ?_
  refine bK_tq (Q := fun z => z = _) (by simp) ?_
  rw [List.drop_zero, List.take_of_length_le (by simp)]
  refine oK_q (Q := fun z => z = _) (bytesOf_map _) ?_
  refine bK_tq (Q := fun z => z = _) (decide_eq_true ⟨by omega, by omega⟩) (bK_tq (Q := fun z => z = _) (decide_eq_true (by omega)) ?_)
  refine oK_q (Q := fun z => z = _) (stG1 l i.toNat hi _) ?_
  refine bK_tq (Q := fun z => z = _) (decide_eq_true ⟨by omega, by omega⟩) (bK_tq (Q := fun z => z = _) (by simp; omega) ?_)
  refine oK_q (Q := fun z => z = _) (stG2 _ i.toNat (by simpa using hi) _) ?_
  refine bK_tq (Q := fun z => z = _) (by simp) ?_
  rw [List.drop_zero, List.take_of_length_le (by simp)]
  have eB : turnB l[i.toNat].2.1 t = l[i.toNat].2.1.set (turnK l[i.toNat].2.1 t) (turnV (l[i.toNat].2.1[turnK l[i.toNat].2.1 t].toNat : Int) t) := by
    unfold turnB
    rw [getD_at k3]
  simp only [List.getElem_set_self, List.set_set, ← eB]
  rfl
theorem turnedRO : ∀ d : Tu turnedRS.fs, turnedRS.pre d → CallOk Try.prog 16 (turnedRS.args d) [] (turnedRS.ret d)
  | ((x, l), i, t), h => CallOk.unit (fnOk PKz_ok 21) rfl fLoops_none (o := false) (by show 0 ≤ 1000; decide) ((turnedR_w x l i t).trans (turnedRV x l i t h.1 h.2.1 h.2.2))

end Go.Proofs.Ytacpbgkljdgmlaa
