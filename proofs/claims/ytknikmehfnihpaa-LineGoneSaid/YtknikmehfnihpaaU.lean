/- A part of the proof: contracts of functions. -/
import Derived.Test.YtknikmehfnihpaaV
import Derived.Test.YtknikmehfnihpaaAbAny

set_option linter.unusedVariables false
set_option linter.unusedSimpArgs false
set_option maxRecDepth 100000
namespace Go.Proofs.Ytknikmehfnihpaa
open Go Go.Ab
noncomputable def PKu0 : PKs := clPK.add 16 placeS.pk
theorem PKu0_ok : PKsOk Try.prog PKu0 := PKsOk.anyF clPK_ok 16 placeS placeO
noncomputable def dropo (x : Bool) (l : List Wait_T) (c : Int) : Option Ret := unitQ Try.prog cfg PKd LP0 true 10 [.slc x (l.map (mkV true Wait_tfs)), .int .i64 c] []
noncomputable def dropo_r (x : Bool) (l : List Wait_T) (c : Int) : Option Ret :=
  oK (clP.dec [AV.slc x (List.map (mkV true Wait_tfs) l)] []) fun (d0 : Bool × List (Int × Int × Int × Int)) => oK (dcdP.dec [AV.sref 1000000 0 0 (List.map (mkV true Wait_tfs) d0.snd).length, AV.fn 18 [] [AV.ptr 1000001 0 0 0]] [{ v := 0, k := BK.row, fz := false, sz := 4, es := List.map (mkV true Wait_tfs) d0.snd }, { v := 0, k := BK.box, fz := false, sz := 0, es := [AV.int IntKind.i64 c] }]) fun (d1 : List (Int × Int × Int × Int) × Int) => some { pan := false, res := AV.sref 2000000 0 0 (dckF d1).length, out := [], new := [{ v := 0, k := BK.row, fz := false, sz := 4, es := List.map (mkV true Wait_tfs) (dckZ d1) }] }
theorem dropo_w (x : Bool) (l : List Wait_T) (c : Int) : dropo x l c = dropo_r x l c := by kernel_rfl

abbrev DpD : Type := (Bool × List Wait_T) × Int
def dpA (d : DpD) : List AV × List Blk := ([.slc d.1.1 (d.1.2.map (mkV true Wait_tfs)), .int .i64 d.2], [])
theorem dpA_inj (d d' : DpD) (h : dpA d = dpA d') : d = d' := by
  obtain ⟨⟨x, l⟩, c⟩ := d
  obtain ⟨⟨x', l'⟩, c'⟩ := d'
  simp only [dpA, List.cons.injEq, Prod.mk.injEq, AV.slc.injEq, AV.int.injEq, and_true, true_and] at h
  have e1 := map_inj (fs := Wait_tfs) rfl h.1.2
  rw [h.1.1, e1, h.2]
noncomputable def dpP : PK := PK.of dpA (fun d => 1 ≤ d.1.2.length ∧ d.1.2.length ≤ 100000) fun d => .leaf { pan := false, res := .sref newBase 0 0 (dckF (d.1.2, d.2)).length, out := [], new := [dcRow (dckZ (d.1.2, d.2))] }
noncomputable def PKu1 : PKs := PKu0.add 10 dpP
theorem PKu1_ok : PKsOk Try.prog PKu1 := PKsOk.any PKu0_ok 10 dpA _ _ (by
  rintro ⟨⟨x, l⟩, c⟩ ⟨h1, h2⟩
  refine CallOk.unit (fnOk PKd_ok 21) rfl fLoops_none (o := true) (by show 0 ≤ 1000; decide) ((dropo_w x l c).trans ?_)
  unfold dropo_r
  refine oK_pkq (Q := fun z => z = _) cl_inj (x, l) ⟨h1, h2⟩ ?_
  exact oK_pkq (Q := fun z => z = _) dcDA_inj (l, c) ⟨h1, h2⟩ rfl)
noncomputable def put0 (x : Bool) (w : Wait_T) : Option Ret := unitQ Try.prog cfg PKs0 LP0 false 8 [.slc x [], .agg (Tu.mk Wait_tfs w)] []
noncomputable def put0_r (x : Bool) (w : Wait_T) : Option Ret :=
  some { pan := false, res := AV.tup [AV.slc false [AV.agg [AV.int IntKind.i64 w.fst, AV.int IntKind.i64 w.snd.fst, AV.int IntKind.i64 w.snd.snd.fst, AV.int IntKind.i64 w.snd.snd.snd]], AV.bool true], out := [], new := [] }
theorem put0_w (x : Bool) (w : Wait_T) : put0 x w = put0_r x w := by kernel_rfl

abbrev put_id : Nat := 8
abbrev put_sh : Shp := [none, some 4]
abbrev put_fs : List Lf := [.fl true Wait_tfs, .fi .i64, .fi .i64, .fi .i64, .fi .i64]
abbrev put_rsh : Shp := [none, none]
abbrev put_rfs : List Lf := [.fl true Wait_tfs, .fb]
noncomputable def put_r (l_x : Bool) (l : List Wait_T) (w_Client : Int) (w_Seq : Int) (w_File : Int) (w_Mode : Int) : Option Ret :=
  oK (clP.dec [AV.slc l_x (List.map (mkV true Wait_tfs) l)] []) fun (d0 : Bool × List (Int × Int × Int × Int)) =>
  oK (placeS.dec [AV.slc l_x (List.map (mkV true Wait_tfs) l), AV.int IntKind.i64 w_Client] []) fun (d1 : (Bool × List (Int × Int × Int × Int)) × Int) =>
    bK (decide (0 ≤ placeQ d1.fst.snd d1.snd))
      (oK (elemAt true Wait_tfs (List.map (mkV true Wait_tfs) l) (placeQ d1.fst.snd d1.snd)) fun (d2 : Int × Int × Int × Int) =>
        bK (decide (d2.snd.snd.fst = w_File)) (bK (decide (0 ≤ placeQ d1.fst.snd d1.snd ∧ placeQ d1.fst.snd d1.snd < (↑(List.map (mkV true Wait_tfs) d0.snd).length : Int))) (oK (stRow (List.map (mkV true Wait_tfs) d0.snd) (0 + (placeQ d1.fst.snd d1.snd).toNat) 0 [AV.int IntKind.i64 w_Client, AV.int IntKind.i64 w_Seq, AV.int IntKind.i64 w_File, AV.int IntKind.i64 w_Mode]) fun (d3 : List AV) => bK (decide (0 + (List.map (mkV true Wait_tfs) d0.snd).length ≤ d3.length)) (some { pan := false, res := AV.tup [AV.slc false (List.take (List.map (mkV true Wait_tfs) d0.snd).length (List.drop 0 d3)), AV.bool true], out := [], new := [] }) none) none)
          (oK (dpP.dec [AV.slc l_x (List.map (mkV true Wait_tfs) l), AV.int IntKind.i64 w_Client] []) fun (d4 : (Bool × List (Int × Int × Int × Int)) × Int) =>
            bK (decide (0 + (dckF (d4.fst.snd, d4.snd)).length ≤ (List.map (mkV true Wait_tfs) (dckZ (d4.fst.snd, d4.snd))).length))
              (bK (decide (4 ≤ (↑(dckF (d4.fst.snd, d4.snd)).length : Int))) (oK (clP.dec [AV.slc l_x (List.map (mkV true Wait_tfs) l)] []) fun (d5 : Bool × List (Int × Int × Int × Int)) => bK (decide (0 + (List.map (mkV true Wait_tfs) d5.snd).length ≤ (List.map (mkV true Wait_tfs) d5.snd).length)) (some { pan := false, res := AV.tup [AV.slc false (List.take (List.map (mkV true Wait_tfs) d5.snd).length (List.drop 0 (List.map (mkV true Wait_tfs) d5.snd))), AV.bool false], out := [], new := [] }) none)
                (bK (decide (0 + (dckF (d4.fst.snd, d4.snd)).length ≤ (List.map (mkV true Wait_tfs) (dckZ (d4.fst.snd, d4.snd))).length))
                  (bK (decide (0 = 0 ∧ (dckF (d4.fst.snd, d4.snd)).length = (List.map (mkV true Wait_tfs) (dckZ (d4.fst.snd, d4.snd))).length) && bytesFit Try.prog 24 ((dckF (d4.fst.snd, d4.snd)).length + 1)) (bK (decide (0 + ((dckF (d4.fst.snd, d4.snd)).length + 1) ≤ (List.take (dckF (d4.fst.snd, d4.snd)).length (List.map (mkV true Wait_tfs) (dckZ (d4.fst.snd, d4.snd))) ++ [AV.agg [AV.int IntKind.i64 w_Client, AV.int IntKind.i64 w_Seq, AV.int IntKind.i64 w_File, AV.int IntKind.i64 w_Mode]]).length)) (some { pan := false, res := AV.tup [AV.slc false (List.take ((dckF (d4.fst.snd, d4.snd)).length + 1) (List.drop 0 (List.take (dckF (d4.fst.snd, d4.snd)).length (List.map (mkV true Wait_tfs) (dckZ (d4.fst.snd, d4.snd))) ++ [AV.agg [AV.int IntKind.i64 w_Client, AV.int IntKind.i64 w_Seq, AV.int IntKind.i64 w_File, AV.int IntKind.i64 w_Mode]]))), AV.bool true], out := [], new := [] }) none)
                    (bK (decide (0 + (dckF (d4.fst.snd, d4.snd)).length + 1 ≤ (List.map (mkV true Wait_tfs) (dckZ (d4.fst.snd, d4.snd))).length)) (bK (decide (0 + ((dckF (d4.fst.snd, d4.snd)).length + 1) ≤ (List.take (0 + (dckF (d4.fst.snd, d4.snd)).length) (List.map (mkV true Wait_tfs) (dckZ (d4.fst.snd, d4.snd))) ++ AV.agg [AV.int IntKind.i64 w_Client, AV.int IntKind.i64 w_Seq, AV.int IntKind.i64 w_File, AV.int IntKind.i64 w_Mode] :: List.append._f [] PUnit.unit (List.drop (0 + (dckF (d4.fst.snd, d4.snd)).length + 1) (List.map (mkV true Wait_tfs) (dckZ (d4.fst.snd, d4.snd))))).length)) (some { pan := false, res := AV.tup [AV.slc false (List.take ((dckF (d4.fst.snd, d4.snd)).length + 1) (List.drop 0 (List.take (0 + (dckF (d4.fst.snd, d4.snd)).length) (List.map (mkV true Wait_tfs) (dckZ (d4.fst.snd, d4.snd))) ++ AV.agg [AV.int IntKind.i64 w_Client, AV.int IntKind.i64 w_Seq, AV.int IntKind.i64 w_File, AV.int IntKind.i64 w_Mode] :: List.append._f [] PUnit.unit (List.drop (0 + (dckF (d4.fst.snd, d4.snd)).length + 1) (List.map (mkV true Wait_tfs) (dckZ (d4.fst.snd, d4.snd))))))), AV.bool true], out := [], new := [] }) none) none))
                  none))
              none))
      (oK (dpP.dec [AV.slc l_x (List.map (mkV true Wait_tfs) l), AV.int IntKind.i64 w_Client] []) fun (d6 : (Bool × List (Int × Int × Int × Int)) × Int) =>
        bK (decide (0 + (dckF (d6.fst.snd, d6.snd)).length ≤ (List.map (mkV true Wait_tfs) (dckZ (d6.fst.snd, d6.snd))).length))
          (bK (decide (4 ≤ (↑(dckF (d6.fst.snd, d6.snd)).length : Int))) (oK (clP.dec [AV.slc l_x (List.map (mkV true Wait_tfs) l)] []) fun (d7 : Bool × List (Int × Int × Int × Int)) => bK (decide (0 + (List.map (mkV true Wait_tfs) d7.snd).length ≤ (List.map (mkV true Wait_tfs) d7.snd).length)) (some { pan := false, res := AV.tup [AV.slc false (List.take (List.map (mkV true Wait_tfs) d7.snd).length (List.drop 0 (List.map (mkV true Wait_tfs) d7.snd))), AV.bool false], out := [], new := [] }) none)
            (bK (decide (0 + (dckF (d6.fst.snd, d6.snd)).length ≤ (List.map (mkV true Wait_tfs) (dckZ (d6.fst.snd, d6.snd))).length))
              (bK (decide (0 = 0 ∧ (dckF (d6.fst.snd, d6.snd)).length = (List.map (mkV true Wait_tfs) (dckZ (d6.fst.snd, d6.snd))).length) && bytesFit Try.prog 24 ((dckF (d6.fst.snd, d6.snd)).length + 1)) (bK (decide (0 + ((dckF (d6.fst.snd, d6.snd)).length + 1) ≤ (List.take (dckF (d6.fst.snd, d6.snd)).length (List.map (mkV true Wait_tfs) (dckZ (d6.fst.snd, d6.snd))) ++ [AV.agg [AV.int IntKind.i64 w_Client, AV.int IntKind.i64 w_Seq, AV.int IntKind.i64 w_File, AV.int IntKind.i64 w_Mode]]).length)) (some { pan := false, res := AV.tup [AV.slc false (List.take ((dckF (d6.fst.snd, d6.snd)).length + 1) (List.drop 0 (List.take (dckF (d6.fst.snd, d6.snd)).length (List.map (mkV true Wait_tfs) (dckZ (d6.fst.snd, d6.snd))) ++ [AV.agg [AV.int IntKind.i64 w_Client, AV.int IntKind.i64 w_Seq, AV.int IntKind.i64 w_File, AV.int IntKind.i64 w_Mode]]))), AV.bool true], out := [], new := [] }) none)
                (bK (decide (0 + (dckF (d6.fst.snd, d6.snd)).length + 1 ≤ (List.map (mkV true Wait_tfs) (dckZ (d6.fst.snd, d6.snd))).length)) (bK (decide (0 + ((dckF (d6.fst.snd, d6.snd)).length + 1) ≤ (List.take (0 + (dckF (d6.fst.snd, d6.snd)).length) (List.map (mkV true Wait_tfs) (dckZ (d6.fst.snd, d6.snd))) ++ AV.agg [AV.int IntKind.i64 w_Client, AV.int IntKind.i64 w_Seq, AV.int IntKind.i64 w_File, AV.int IntKind.i64 w_Mode] :: List.append._f [] PUnit.unit (List.drop (0 + (dckF (d6.fst.snd, d6.snd)).length + 1) (List.map (mkV true Wait_tfs) (dckZ (d6.fst.snd, d6.snd))))).length)) (some { pan := false, res := AV.tup [AV.slc false (List.take ((dckF (d6.fst.snd, d6.snd)).length + 1) (List.drop 0 (List.take (0 + (dckF (d6.fst.snd, d6.snd)).length) (List.map (mkV true Wait_tfs) (dckZ (d6.fst.snd, d6.snd))) ++ AV.agg [AV.int IntKind.i64 w_Client, AV.int IntKind.i64 w_Seq, AV.int IntKind.i64 w_File, AV.int IntKind.i64 w_Mode] :: List.append._f [] PUnit.unit (List.drop (0 + (dckF (d6.fst.snd, d6.snd)).length + 1) (List.map (mkV true Wait_tfs) (dckZ (d6.fst.snd, d6.snd))))))), AV.bool true], out := [], new := [] }) none) none))
              none))
          none)
theorem put_w (l_x : Bool) (l : List Wait_T) (w_Client : Int) (w_Seq : Int) (w_File : Int) (w_Mode : Int) : unitQ Try.prog cfg PKu1 LP0 false 8 (groupA put_sh (Tu.mk put_fs ((l_x, l), w_Client, w_Seq, w_File, w_Mode))) [] = put_r l_x l w_Client w_Seq w_File w_Mode := by kernel_rfl

def ahh (x : Bool) (l : List Wait_T) (c f i : Int) : St := { fr := [(1, AV.int IntKind.i64 c), (2, AV.int IntKind.i64 f), (9, AV.slc x (List.map (mkV true Wait_tfs) l)), (10, AV.int IntKind.i64 (↑(List.map (mkV true Wait_tfs) l).length : Int)), (11, AV.int IntKind.i64 i)], bs := [], df := [] }
noncomputable def ah_s (x : Bool) (l : List Wait_T) (c f i : Int) : Option (St ⊕ (Ex × St)) := stepK Try.prog cfg PKz LP0 13 0 (ahh x l c f i)
noncomputable def ah_s_r (x : Bool) (l : List Wait_T) (c : Int) (f : Int) (i : Int) : Option (St ⊕ Ex × St) :=
  bK (decide (i < (↑(List.map (mkV true Wait_tfs) l).length : Int))) (oK (elemAt true Wait_tfs (List.map (mkV true Wait_tfs) l) i) fun (d0 : Int × Int × Int × Int) => bK (!decide (d0.snd.snd.fst = f)) (some (Sum.inl { fr := [(1, AV.int IntKind.i64 c), (2, AV.int IntKind.i64 f), (9, AV.slc x (List.map (mkV true Wait_tfs) l)), (10, AV.int IntKind.i64 (↑(List.map (mkV true Wait_tfs) l).length : Int)), (11, AV.int IntKind.i64 (IntKind.i64.wrap (i + 1)))], bs := [], df := [] })) (some (Sum.inr (Ex.ret, { fr := [(6, AV.bool !decide (d0.fst = c))], bs := [], df := [] })))) (some (Sum.inr (Ex.exit 0, { fr := [], bs := [], df := [] })))
theorem ah_s_w (x : Bool) (l : List Wait_T) (c : Int) (f : Int) (i : Int) : ah_s x l c f i = ah_s_r x l c f i := by kernel_rfl

def arh (x : Bool) (l : List Wait_T) (c f i : Int) : St := { fr := [(0, AV.slc x (List.map (mkV true Wait_tfs) l)), (1, AV.int IntKind.i64 c), (2, AV.int IntKind.i64 f), (7, AV.int IntKind.i64 i)], bs := [], df := [] }
noncomputable def ar_s (x : Bool) (l : List Wait_T) (c f i : Int) : Option (St ⊕ (Ex × St)) := stepK Try.prog cfg PKz LP0 14 0 (arh x l c f i)
noncomputable def ar_s_r (x : Bool) (l : List Wait_T) (c : Int) (f : Int) (i : Int) : Option (St ⊕ Ex × St) :=
  bK (decide (i < (↑(List.map (mkV true Wait_tfs) l).length : Int))) (oK (elemAt true Wait_tfs (List.map (mkV true Wait_tfs) l) i) fun (d0 : Int × Int × Int × Int) => bK (decide (d0.fst = c)) (oK (elemAt true Wait_tfs (List.map (mkV true Wait_tfs) l) i) fun (d1 : Int × Int × Int × Int) => bK (decide (d1.snd.snd.fst = f)) (some (Sum.inr (Ex.ret, { fr := [(6, AV.bool false)], bs := [], df := [] }))) (oK (elemAt true Wait_tfs (List.map (mkV true Wait_tfs) l) i) fun (d2 : Int × Int × Int × Int) => bK (decide (d2.snd.snd.fst = f)) (some (Sum.inr (Ex.ret, { fr := [(6, AV.bool true)], bs := [], df := [] }))) (some (Sum.inl { fr := [(0, AV.slc x (List.map (mkV true Wait_tfs) l)), (1, AV.int IntKind.i64 c), (2, AV.int IntKind.i64 f), (7, AV.int IntKind.i64 (IntKind.i64.wrap (i + 1)))], bs := [], df := [] })))) (oK (elemAt true Wait_tfs (List.map (mkV true Wait_tfs) l) i) fun (d3 : Int × Int × Int × Int) => bK (decide (d3.snd.snd.fst = f)) (some (Sum.inr (Ex.ret, { fr := [(6, AV.bool true)], bs := [], df := [] }))) (some (Sum.inl { fr := [(0, AV.slc x (List.map (mkV true Wait_tfs) l)), (1, AV.int IntKind.i64 c), (2, AV.int IntKind.i64 f), (7, AV.int IntKind.i64 (IntKind.i64.wrap (i + 1)))], bs := [], df := [] })))) (some (Sum.inr (Ex.exit 0, { fr := [], bs := [], df := [] })))
theorem ar_s_w (x : Bool) (l : List Wait_T) (c : Int) (f : Int) (i : Int) : ar_s x l c f i = ar_s_r x l c f i := by kernel_rfl

/-- Does one wait for it? -/
def anyW (f : Int) : List Wait_T → Bool
  | [] => false
  | w :: r => decide (w.2.2.1 = f) || anyW f r
/-- Is the first that waits for it another one? -/
def aheadN (c f : Int) : List Wait_T → Bool
  | [] => false
  | w :: r => if w.2.2.1 = f then !decide (w.1 = c) else aheadN c f r
def ahX (l : List Wait_T) (c f : Int) : Ex × St := if anyW f l = true then (.ret, { fr := [(6, .bool (aheadN c f l))], bs := [], df := [] }) else (.exit 0, { fr := [], bs := [], df := [] })
theorem ahl : (loopsOf 0 (codeOf Try.prog 13)).map (·.1) = [0] := by kernel_rfl
theorem aho : OneLoops Try.prog 13 := by unfold OneLoops; rw [ahl]; decide
theorem aha : At 0 (codeOf Try.prog 13) 0 (.loop (bodyAt Try.prog 13 0)) := at_body aho (by rw [ahl]; decide)
theorem arl : (loopsOf 0 (codeOf Try.prog 14)).map (·.1) = [0] := by kernel_rfl
theorem aro : OneLoops Try.prog 14 := by unfold OneLoops; rw [arl]; decide
theorem ara : At 0 (codeOf Try.prog 14) 0 (.loop (bodyAt Try.prog 14 0)) := at_body aro (by rw [arl]; decide)
theorem ah_run (x : Bool) (l : List Wait_T) (c f : Int) (hl : l.length ≤ 100000) : ∀ (j i : Nat), i + j = l.length → ∀ (m : Nat), j < m → Runs' Try.prog cfg PKz 13 0 m (ahh x l c f i) (ahX (l.drop i) c f)
  | 0, i, hi, m + 1, hm => by
    rw [List.drop_of_length_le (by omega)]
    refine Runs'.done (lp := LP0) LPok.none aha ((ah_s_w x l c f i).trans ?_)
    unfold ah_s_r
    rw [bK_neg (by simp; omega)]
    rfl
  | j + 1, i, hi, m + 1, hm => by
    have hi' : i < l.length := by omega
    have e : l.drop i = l[i] :: l.drop (i + 1) := List.drop_eq_getElem_cons hi'
    have e2 : l.getD (i : Int).toNat (0, 0, 0, 0) = l[i] := by rw [Int.toNat_natCast, getD_at hi']
    rw [e]
    by_cases h : l[i].2.2.1 = f
    · have : ahX (l[i] :: l.drop (i + 1)) c f = (.ret, { fr := [(6, .bool !decide (l[i].1 = c))], bs := [], df := [] }) := by
        unfold ahX anyW aheadN
        rw [decide_eq_true h, Bool.true_or, if_pos rfl, if_pos h]
      rw [this]
      refine Runs'.done (lp := LP0) LPok.none aha ((ah_s_w x l c f i).trans ?_)
      unfold ah_s_r
      rw [bK_pos (by simp; omega)]
      refine oK_atq (Q := fun z => z = _) (fs := Wait_tfs) (0, 0, 0, 0) (by omega) (by simpa using hi') ?_
      rw [e2, bK_neg (by rw [decide_eq_true h]; rfl)]
    · have : ahX (l[i] :: l.drop (i + 1)) c f = ahX (l.drop (i + 1)) c f := by
        unfold ahX
        rw [anyW, aheadN, decide_eq_false h, Bool.false_or, if_neg h]
      rw [this]
      refine Runs'.step (lp := LP0) LPok.none aha ((ah_s_w x l c f i).trans ?_) (ah_run x l c f hl j (i + 1) (by omega) m (by omega))
      unfold ah_s_r
      rw [bK_pos (by simp; omega)]
      refine oK_atq (Q := fun z => z = _) (fs := Wait_tfs) (0, 0, 0, 0) (by omega) (by simpa using hi') ?_
      rw [e2, bK_pos (by rw [decide_eq_false h]; rfl), w64 (by omega) (by omega)]
      rfl
theorem ar_run (x : Bool) (l : List Wait_T) (c f : Int) (hl : l.length ≤ 100000) : ∀ (j i : Nat), i + j = l.length → ∀ (m : Nat), j < m → Runs' Try.prog cfg PKz 14 0 m (arh x l c f i) (ahX (l.drop i) c f)
  | 0, i, hi, m + 1, hm => by
    rw [List.drop_of_length_le (by omega)]
    refine Runs'.done (lp := LP0) LPok.none ara ((ar_s_w x l c f i).trans ?_)
    unfold ar_s_r
    rw [bK_neg (by simp; omega)]
    rfl
  | j + 1, i, hi, m + 1, hm => by
    have hi' : i < l.length := by omega
    have e : l.drop i = l[i] :: l.drop (i + 1) := List.drop_eq_getElem_cons hi'
    have e2 : l.getD (i : Int).toNat (0, 0, 0, 0) = l[i] := by rw [Int.toNat_natCast, getD_at hi']
    have at_ : ∀ {Q : Option (St ⊕ (Ex × St)) → Prop} {k : Wait_T → Option (St ⊕ (Ex × St))}, Q (k l[i]) → Q (oK (elemAt true Wait_tfs (l.map (mkV true Wait_tfs)) i) k) := fun hk => oK_atq (fs := Wait_tfs) (0, 0, 0, 0) (by omega) (by simpa using hi') (by rw [e2]; exact hk)
    rw [e]
    by_cases h : l[i].2.2.1 = f
    · have : ahX (l[i] :: l.drop (i + 1)) c f = (.ret, { fr := [(6, .bool !decide (l[i].1 = c))], bs := [], df := [] }) := by
        unfold ahX anyW aheadN
        rw [decide_eq_true h, Bool.true_or, if_pos rfl, if_pos h]
      rw [this]
      refine Runs'.done (lp := LP0) LPok.none ara ((ar_s_w x l c f i).trans ?_)
      unfold ar_s_r
      rw [bK_pos (by simp; omega)]
      refine at_ (Q := fun z => z = _) ?_
      refine bK_i (fun hc => ?_) (fun hc => ?_)
      · refine at_ (Q := fun z => z = _) ?_
        rw [bK_pos (decide_eq_true h), decide_eq_true hc]
        rfl
      · refine at_ (Q := fun z => z = _) ?_
        rw [bK_pos (decide_eq_true h), decide_eq_false hc]
        rfl
    · have : ahX (l[i] :: l.drop (i + 1)) c f = ahX (l.drop (i + 1)) c f := by
        unfold ahX
        rw [anyW, aheadN, decide_eq_false h, Bool.false_or, if_neg h]
      rw [this]
      refine Runs'.step (lp := LP0) LPok.none ara ((ar_s_w x l c f i).trans ?_) (ar_run x l c f hl j (i + 1) (by omega) m (by omega))
      unfold ar_s_r
      have e1 : IntKind.i64.wrap ((i : Int) + 1) = ((i + 1 : Nat) : Int) := by rw [w64 (by omega) (by omega)]; omega
      rw [bK_pos (by simp; omega), e1]
      refine at_ (Q := fun z => z = _) ?_
      refine bK_i (fun hc => ?_) (fun hc => ?_)
      · refine at_ (Q := fun z => z = _) ?_
        rw [bK_neg (decide_eq_false h)]
        refine at_ (Q := fun z => z = _) ?_
        rw [bK_neg (decide_eq_false h)]
        rfl
      · refine at_ (Q := fun z => z = _) ?_
        rw [bK_neg (decide_eq_false h)]
        rfl
abbrev AhD : Type := (Bool × List Wait_T) × Int × Int
def ahH (d : AhD) : St := ahh d.1.1 d.1.2 d.2.1 d.2.2 0
def arH (d : AhD) : St := arh d.1.1 d.1.2 d.2.1 d.2.2 0
/-- Does one wait for it? -/
def anyQ (d : AhD) : Bool := anyW d.2.2 d.1.2
def aheadQ (d : AhD) : Bool := aheadN d.2.1 d.2.2 d.1.2
def ahO (d : AhD) : Alt (Ex × St) := .ite (anyQ d) (.leaf (.ret, { fr := [(6, .bool (aheadQ d))], bs := [], df := [] })) (.leaf (.exit 0, { fr := [], bs := [], df := [] }))
noncomputable def ahL : LP := LP.of ahH (fun d => d.1.2.length ≤ 100000) ahO
noncomputable def arL : LP := LP.of arH (fun d => d.1.2.length ≤ 100000) ahO
noncomputable def ahP : LPs := LPs.add LP0 13 0 ahL
noncomputable def arP : LPs := LPs.add LP0 14 0 arL
theorem ahO_val (x : Bool) (l : List Wait_T) (c f : Int) : (ahO ((x, l), c, f)).val = ahX l c f := rfl
theorem ahP_ok : LPok Try.prog cfg PKz ahP 13 := LPok.addH LPok.none aho (by
  rintro ⟨⟨x, l⟩, c, f⟩ h
  have h2 : l.length ≤ 100000 := h
  exact ah_run x l c f h2 l.length 0 (by omega) rounds (by simp only [rounds]; omega))
theorem arP_ok : LPok Try.prog cfg PKz arP 14 := LPok.addH LPok.none aro (by
  rintro ⟨⟨x, l⟩, c, f⟩ h
  have h2 : l.length ≤ 100000 := h
  exact ar_run x l c f h2 l.length 0 (by omega) rounds (by simp only [rounds]; omega))
theorem ahH_inj (d d' : AhD) (h : ahH d = ahH d') : d = d' := by
  obtain ⟨⟨x, l⟩, c, f⟩ := d
  obtain ⟨⟨x', l'⟩, c', f'⟩ := d'
  simp only [ahH, ahh, St.mk.injEq, List.cons.injEq, Prod.mk.injEq, AV.slc.injEq, AV.int.injEq, and_true, true_and] at h
  have e1 := map_inj (fs := Wait_tfs) rfl h.2.2.1.2
  rw [h.1, h.2.1, h.2.2.1.1, e1]
theorem arH_inj (d d' : AhD) (h : arH d = arH d') : d = d' := by
  obtain ⟨⟨x, l⟩, c, f⟩ := d
  obtain ⟨⟨x', l'⟩, c', f'⟩ := d'
  simp only [arH, arh, St.mk.injEq, List.cons.injEq, Prod.mk.injEq, AV.slc.injEq, AV.int.injEq, and_true, true_and] at h
  have e1 := map_inj (fs := Wait_tfs) rfl h.1.2
  rw [h.1.1, e1, h.2.1, h.2.2]
abbrev ahead_id : Nat := 13
abbrev ahead_sh : Shp := [none, none, none]
abbrev ahead_fs : List Lf := [.fl true Wait_tfs, .fi .i64, .fi .i64]
abbrev ahead_rsh : Shp := [none]
abbrev ahead_rfs : List Lf := [.fb]
noncomputable def ahead_r (l_x : Bool) (l : List Wait_T) (client : Int) (file : Int) : Option Ret :=
  oK (ahL.dec { fr := [(1, AV.int IntKind.i64 client), (2, AV.int IntKind.i64 file), (9, AV.slc l_x (List.map (mkV true Wait_tfs) l)), (10, AV.int IntKind.i64 (↑(List.map (mkV true Wait_tfs) l).length : Int)), (11, AV.int IntKind.i64 0)], bs := [], df := [] }) fun (d0 : (Bool × List (Int × Int × Int × Int)) × Int × Int) => bK (anyQ d0) (some { pan := false, res := AV.bool (aheadQ d0), out := [], new := [] }) (some { pan := false, res := AV.bool false, out := [], new := [] })
theorem ahead_w (l_x : Bool) (l : List Wait_T) (client : Int) (file : Int) : unitQ Try.prog cfg PKz ahP false 13 (groupA ahead_sh (Tu.mk ahead_fs ((l_x, l), client, file))) [] = ahead_r l_x l client file := by kernel_rfl

abbrev aheadR_id : Nat := 14
abbrev aheadR_sh : Shp := [none, none, none]
abbrev aheadR_fs : List Lf := [.fl true Wait_tfs, .fi .i64, .fi .i64]
abbrev aheadR_rsh : Shp := [none]
abbrev aheadR_rfs : List Lf := [.fb]
noncomputable def aheadR_r (l_x : Bool) (l : List Wait_T) (client : Int) (file : Int) : Option Ret :=
  oK (arL.dec { fr := [(0, AV.slc l_x (List.map (mkV true Wait_tfs) l)), (1, AV.int IntKind.i64 client), (2, AV.int IntKind.i64 file), (7, AV.int IntKind.i64 0)], bs := [], df := [] }) fun (d0 : (Bool × List (Int × Int × Int × Int)) × Int × Int) => bK (anyQ d0) (some { pan := false, res := AV.bool (aheadQ d0), out := [], new := [] }) (some { pan := false, res := AV.bool false, out := [], new := [] })
theorem aheadR_w (l_x : Bool) (l : List Wait_T) (client : Int) (file : Int) : unitQ Try.prog cfg PKz arP false 14 (groupA aheadR_sh (Tu.mk aheadR_fs ((l_x, l), client, file))) [] = aheadR_r l_x l client file := by kernel_rfl

theorem any_ahead (c f : Int) : ∀ l : List Wait_T, anyW f l = false → aheadN c f l = false
  | [], _ => rfl
  | w :: r, h => by
    unfold anyW at h
    rw [Bool.or_eq_false_iff] at h
    unfold aheadN
    rw [if_neg (of_decide_eq_false h.1)]
    exact any_ahead c f r h.2
noncomputable def aheadS : FS := ⟨ahead_sh, ahead_fs, ahead_rsh, ahead_rfs, fun d => d.1.2.length ≤ 100000, fun d => aheadQ d, none⟩
noncomputable def aheadRS : FS := ⟨aheadR_sh, aheadR_fs, aheadR_rsh, aheadR_rfs, fun d => d.1.2.length ≤ 100000, fun d => aheadQ d, none⟩
theorem aheadO : ∀ d : Tu aheadS.fs, aheadS.pre d → CallOk Try.prog 13 (aheadS.args d) [] (aheadS.ret d) := by
  rintro ⟨⟨x, l⟩, c, f⟩ h
  refine CallOk.unit (fnOk PKz_ok 21) rfl ahP_ok.loops (o := false) (by show 0 ≤ 1000; decide) ((ahead_w x l c f).trans ?_)
  unfold ahead_r
  refine oK_lpq (Q := fun z => z = _) ahH_inj ((x, l), c, f) h ?_
  show bK (anyW f l) _ _ = some (aheadS.out (aheadN c f l))
  refine bK_b (fun _ => rfl) (fun hn => ?_)
  rw [any_ahead c f l hn]
  rfl
theorem aheadRO : ∀ d : Tu aheadRS.fs, aheadRS.pre d → CallOk Try.prog 14 (aheadRS.args d) [] (aheadRS.ret d) := by
  rintro ⟨⟨x, l⟩, c, f⟩ h
  refine CallOk.unit (fnOk PKz_ok 21) rfl arP_ok.loops (o := false) (by show 0 ≤ 1000; decide) ((aheadR_w x l c f).trans ?_)
  unfold aheadR_r
  refine oK_lpq (Q := fun z => z = _) arH_inj ((x, l), c, f) h ?_
  show bK (anyW f l) _ _ = some (aheadRS.out (aheadN c f l))
  refine bK_b (fun _ => rfl) (fun hn => ?_)
  rw [any_ahead c f l hn]
  rfl

end Go.Proofs.Ytknikmehfnihpaa
