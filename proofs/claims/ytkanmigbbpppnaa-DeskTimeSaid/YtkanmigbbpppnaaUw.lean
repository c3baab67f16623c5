/- A part of the proof: contracts of functions. -/
import Derived.Test.YtkanmigbbpppnaaVw
import Derived.Test.YtkanmigbbpppnaaAbAny

set_option linter.unusedVariables false
set_option linter.unusedSimpArgs false
set_option maxRecDepth 100000
namespace Go.Proofs.Ytkanmigbbpppnaa
open Go Go.Ab
noncomputable def PKu0w : PKs := clPKw.add 56 placeSw.pk
theorem PKu0_okw : PKsOk Try.prog PKu0w := PKsOk.anyF clPK_okw 56 placeSw placeOw
noncomputable def dropow (x : Bool) (l : List Wait_T) (c : Int) : Option Ret := unitQ Try.prog cfg PKdw LP0 true 50 [.slc x (l.map (mkV true Wait_tfs)), .int .i64 c] []
noncomputable def dropow_r (x : Bool) (l : List Wait_T) (c : Int) : Option Ret :=
 oK (clPw.dec [sl x l] []) fun (d0 : Bool × List Wait_T) => oK (dcdPw.dec [.sref 1000000 0 0 (mW d0.2).length, .fn 63 [] [pt 1000001]] [(rw4 d0.2), (bx [i6 c])]) fun (d1 : List Wait_T × Int) => some { pan := false, res := .sref 2000000 0 0 (dckFw d1).length, out := [], new := [(rw4 (dckZw d1))] }
theorem dropow_w (x : Bool) (l : List Wait_T) (c : Int) : dropow x l c = dropow_r x l c := by kernel_rfl

abbrev DpDw : Type := (Bool × List Wait_T) × Int
def dpAw (d : DpDw) : List AV × List Blk := ([.slc d.1.1 (d.1.2.map (mkV true Wait_tfs)), .int .i64 d.2], [])
theorem dpA_injw (d d' : DpDw) (h : dpAw d = dpAw d') : d = d' := by
 obtain ⟨⟨x, l⟩, c⟩ := d
 obtain ⟨⟨x', l'⟩, c'⟩ := d'
 simp only [dpAw, List.cons.injEq, Prod.mk.injEq, AV.slc.injEq, AV.int.injEq, and_true, true_and] at h
 have e1 := map_inj (fs := Wait_tfs) rfl h.1.2
 rw [h.1.1, e1, h.2]
noncomputable def dpPw : PK := PK.of dpAw (fun d => 1 ≤ d.1.2.length ∧ d.1.2.length ≤ 100000) fun d => .leaf { pan := false, res := .sref newBase 0 0 (dckFw (d.1.2, d.2)).length, out := [], new := [dcRoww (dckZw (d.1.2, d.2))] }
noncomputable def PKu1w : PKs := PKu0w.add 50 dpPw
theorem PKu1_okw : PKsOk Try.prog PKu1w := PKsOk.any PKu0_okw 50 dpAw _ _ (by
 rintro ⟨⟨x, l⟩, c⟩ ⟨h1, h2⟩
 refine CallOk.unit (fnOk PKd_okw 21) rfl fLoops_none (o := true) (by show 0 ≤ 1000; decide) ((dropow_w x l c).trans ?_)
 unfold dropow_r
 refine oK_pkq (Q := (· = _)) cl_injw (x, l) ⟨h1, h2⟩ ?_
 exact oK_pkq (Q := (· = _)) dcDA_injw (l, c) ⟨h1, h2⟩ rfl)
noncomputable def put0w (x : Bool) (w : Wait_T) : Option Ret := unitQ Try.prog cfg PKs0 LP0 false 40 [.slc x [], .agg (Tu.mk Wait_tfs w)] []
noncomputable def put0w_r (x : Bool) (w : Wait_T) : Option Ret :=
 some (rt (.tup [.slc false [AV.agg [i6 w.1, i6 w.2.1, i6 w.2.2.1, i6 w.2.2.2]], .bool true]))
theorem put0w_w (x : Bool) (w : Wait_T) : put0w x w = put0w_r x w := by kernel_rfl

abbrev putw_id : Nat := 40
abbrev putw_sh : Shp := [none, some 4]
abbrev putw_fs : List Lf := [.fl true Wait_tfs, .fi .i64, .fi .i64, .fi .i64, .fi .i64]
abbrev putw_rsh : Shp := [none, none]
abbrev putw_rfs : List Lf := [.fl true Wait_tfs, .fb]
noncomputable def putw_r (l_x : Bool) (l : List Wait_T) (w_Client : Int) (w_Seq : Int) (w_File : Int) (w_Mode : Int) : Option Ret :=
 oK (clPw.dec [sl l_x l] []) fun (d0 : Bool × List Wait_T) =>
 oK (placeSw.dec [sl l_x l, i6 w_Client] []) fun (d1 : LW × Int) =>
 bK (decide (0 ≤ placeQw d1.1.2 d1.2))
 (oK (elemAt true Wait_tfs (mW l) (placeQw d1.1.2 d1.2)) fun (d2 : Int × Int × Int × Int) =>
 bK (decide (d2.2.2.1 = w_File)) (bK (decide (0 ≤ placeQw d1.1.2 d1.2 ∧ placeQw d1.1.2 d1.2 < (↑(mW d0.2).length : Int))) (oK (stRow (mW d0.2) (0 + (placeQw d1.1.2 d1.2).toNat) 0 [i6 w_Client, i6 w_Seq, i6 w_File, i6 w_Mode]) fun (d3 : List AV) => bK (decide (0 + (mW d0.2).length ≤ d3.length)) (some (rt (.tup [.slc false (List.take (mW d0.2).length (List.drop 0 d3)), .bool true]))) none) none)
 (oK (dpPw.dec [sl l_x l, i6 w_Client] []) fun (d4 : LW × Int) =>
 bK (decide (0 + (dckFw (d4.1.2, d4.2)).length ≤ (mW (dckZw (d4.1.2, d4.2))).length))
 (bK (decide (4 ≤ (↑(dckFw (d4.1.2, d4.2)).length : Int))) (oK (clPw.dec [sl l_x l] []) fun (d5 : Bool × List Wait_T) => bK (decide (0 + (mW d5.2).length ≤ (mW d5.2).length)) (some (rt (.tup [.slc false (List.take (mW d5.2).length (List.drop 0 (mW d5.2))), .bool false]))) none)
 (bK (decide (0 + (dckFw (d4.1.2, d4.2)).length ≤ (mW (dckZw (d4.1.2, d4.2))).length))
 (bK (decide (0 = 0 ∧ (dckFw (d4.1.2, d4.2)).length = (mW (dckZw (d4.1.2, d4.2))).length) && bytesFit Try.prog 25 ((dckFw (d4.1.2, d4.2)).length + 1)) (bK (decide (0 + ((dckFw (d4.1.2, d4.2)).length + 1) ≤ (List.take (dckFw (d4.1.2, d4.2)).length (mW (dckZw (d4.1.2, d4.2))) ++ [AV.agg [i6 w_Client, i6 w_Seq, i6 w_File, i6 w_Mode]]).length)) (some (rt (.tup [.slc false (List.take ((dckFw (d4.1.2, d4.2)).length + 1) (List.drop 0 (List.take (dckFw (d4.1.2, d4.2)).length (mW (dckZw (d4.1.2, d4.2))) ++ [AV.agg [i6 w_Client, i6 w_Seq, i6 w_File, i6 w_Mode]]))), .bool true]))) none)
 (bK (decide (0 + (dckFw (d4.1.2, d4.2)).length + 1 ≤ (mW (dckZw (d4.1.2, d4.2))).length)) (bK (decide (0 + ((dckFw (d4.1.2, d4.2)).length + 1) ≤ (List.take (0 + (dckFw (d4.1.2, d4.2)).length) (mW (dckZw (d4.1.2, d4.2))) ++ AV.agg [i6 w_Client, i6 w_Seq, i6 w_File, i6 w_Mode] :: List.append._f [] PUnit.unit (List.drop (0 + (dckFw (d4.1.2, d4.2)).length + 1) (mW (dckZw (d4.1.2, d4.2))))).length)) (some (rt (.tup [.slc false (List.take ((dckFw (d4.1.2, d4.2)).length + 1) (List.drop 0 (List.take (0 + (dckFw (d4.1.2, d4.2)).length) (mW (dckZw (d4.1.2, d4.2))) ++ AV.agg [i6 w_Client, i6 w_Seq, i6 w_File, i6 w_Mode] :: List.append._f [] PUnit.unit (List.drop (0 + (dckFw (d4.1.2, d4.2)).length + 1) (mW (dckZw (d4.1.2, d4.2))))))), .bool true]))) none) none))
 none))
 none))
 (oK (dpPw.dec [sl l_x l, i6 w_Client] []) fun (d6 : LW × Int) =>
 bK (decide (0 + (dckFw (d6.1.2, d6.2)).length ≤ (mW (dckZw (d6.1.2, d6.2))).length))
 (bK (decide (4 ≤ (↑(dckFw (d6.1.2, d6.2)).length : Int))) (oK (clPw.dec [sl l_x l] []) fun (d7 : Bool × List Wait_T) => bK (decide (0 + (mW d7.2).length ≤ (mW d7.2).length)) (some (rt (.tup [.slc false (List.take (mW d7.2).length (List.drop 0 (mW d7.2))), .bool false]))) none)
 (bK (decide (0 + (dckFw (d6.1.2, d6.2)).length ≤ (mW (dckZw (d6.1.2, d6.2))).length))
 (bK (decide (0 = 0 ∧ (dckFw (d6.1.2, d6.2)).length = (mW (dckZw (d6.1.2, d6.2))).length) && bytesFit Try.prog 25 ((dckFw (d6.1.2, d6.2)).length + 1)) (bK (decide (0 + ((dckFw (d6.1.2, d6.2)).length + 1) ≤ (List.take (dckFw (d6.1.2, d6.2)).length (mW (dckZw (d6.1.2, d6.2))) ++ [AV.agg [i6 w_Client, i6 w_Seq, i6 w_File, i6 w_Mode]]).length)) (some (rt (.tup [.slc false (List.take ((dckFw (d6.1.2, d6.2)).length + 1) (List.drop 0 (List.take (dckFw (d6.1.2, d6.2)).length (mW (dckZw (d6.1.2, d6.2))) ++ [AV.agg [i6 w_Client, i6 w_Seq, i6 w_File, i6 w_Mode]]))), .bool true]))) none)
 (bK (decide (0 + (dckFw (d6.1.2, d6.2)).length + 1 ≤ (mW (dckZw (d6.1.2, d6.2))).length)) (bK (decide (0 + ((dckFw (d6.1.2, d6.2)).length + 1) ≤ (List.take (0 + (dckFw (d6.1.2, d6.2)).length) (mW (dckZw (d6.1.2, d6.2))) ++ AV.agg [i6 w_Client, i6 w_Seq, i6 w_File, i6 w_Mode] :: List.append._f [] PUnit.unit (List.drop (0 + (dckFw (d6.1.2, d6.2)).length + 1) (mW (dckZw (d6.1.2, d6.2))))).length)) (some (rt (.tup [.slc false (List.take ((dckFw (d6.1.2, d6.2)).length + 1) (List.drop 0 (List.take (0 + (dckFw (d6.1.2, d6.2)).length) (mW (dckZw (d6.1.2, d6.2))) ++ AV.agg [i6 w_Client, i6 w_Seq, i6 w_File, i6 w_Mode] :: List.append._f [] PUnit.unit (List.drop (0 + (dckFw (d6.1.2, d6.2)).length + 1) (mW (dckZw (d6.1.2, d6.2))))))), .bool true]))) none) none))
 none))
 none)
theorem putw_w (l_x : Bool) (l : List Wait_T) (w_Client : Int) (w_Seq : Int) (w_File : Int) (w_Mode : Int) : unitQ Try.prog cfg PKu1w LP0 false 40 (groupA putw_sh (Tu.mk putw_fs ((l_x, l), w_Client, w_Seq, w_File, w_Mode))) [] = putw_r l_x l w_Client w_Seq w_File w_Mode := by kernel_rfl

def ahhw (x : Bool) (l : List Wait_T) (c f i : Int) : St := { fr := [(1, AV.int IntKind.i64 c), (2, AV.int IntKind.i64 f), (9, AV.slc x (List.map (mkV true Wait_tfs) l)), (10, AV.int IntKind.i64 (↑(List.map (mkV true Wait_tfs) l).length : Int)), (11, AV.int IntKind.i64 i)], bs := [], df := [] }
noncomputable def ah_sw (x : Bool) (l : List Wait_T) (c f i : Int) : Option (St ⊕ (Ex × St)) := stepK Try.prog cfg PKz LP0 47 0 (ahhw x l c f i)
noncomputable def ah_sw_r (x : Bool) (l : List Wait_T) (c : Int) (f : Int) (i : Int) : Option (St ⊕ Ex × St) :=
 bK (decide (i < (↑(mW l).length : Int))) (oK (elemAt true Wait_tfs (mW l) i) fun (d0 : Int × Int × Int × Int) => bK (!decide (d0.2.2.1 = f)) (some (.inl (sf [(1, i6 c), (2, i6 f), (9, sl x l), (10, i6 (↑(mW l).length : Int)), (11, i6 (IntKind.i64.wrap (i + 1)))] []))) (some (.inr (.ret, (sf [(6, .bool !decide (d0.1 = c))] []))))) (some (.inr (.exit 0, (sf [] []))))
theorem ah_sw_w (x : Bool) (l : List Wait_T) (c : Int) (f : Int) (i : Int) : ah_sw x l c f i = ah_sw_r x l c f i := by kernel_rfl

def arhw (x : Bool) (l : List Wait_T) (c f i : Int) : St := { fr := [(0, AV.slc x (List.map (mkV true Wait_tfs) l)), (1, AV.int IntKind.i64 c), (2, AV.int IntKind.i64 f), (7, AV.int IntKind.i64 i)], bs := [], df := [] }
noncomputable def ar_sw (x : Bool) (l : List Wait_T) (c f i : Int) : Option (St ⊕ (Ex × St)) := stepK Try.prog cfg PKz LP0 21 0 (arhw x l c f i)
noncomputable def ar_sw_r (x : Bool) (l : List Wait_T) (c : Int) (f : Int) (i : Int) : Option (St ⊕ Ex × St) :=
 bK (decide (i < (↑(mW l).length : Int))) (oK (elemAt true Wait_tfs (mW l) i) fun (d0 : Int × Int × Int × Int) => bK (decide (d0.1 = c)) (oK (elemAt true Wait_tfs (mW l) i) fun (d1 : Int × Int × Int × Int) => bK (decide (d1.2.2.1 = f)) (some (.inr (.ret, (sf [(6, .bool false)] [])))) (oK (elemAt true Wait_tfs (mW l) i) fun (d2 : Int × Int × Int × Int) => bK (decide (d2.2.2.1 = f)) (some (.inr (.ret, (sf [(6, .bool true)] [])))) (some (.inl (sf [(0, sl x l), (1, i6 c), (2, i6 f), (7, i6 (IntKind.i64.wrap (i + 1)))] []))))) (oK (elemAt true Wait_tfs (mW l) i) fun (d3 : Int × Int × Int × Int) => bK (decide (d3.2.2.1 = f)) (some (.inr (.ret, (sf [(6, .bool true)] [])))) (some (.inl (sf [(0, sl x l), (1, i6 c), (2, i6 f), (7, i6 (IntKind.i64.wrap (i + 1)))] []))))) (some (.inr (.exit 0, (sf [] []))))
theorem ar_sw_w (x : Bool) (l : List Wait_T) (c : Int) (f : Int) (i : Int) : ar_sw x l c f i = ar_sw_r x l c f i := by kernel_rfl

def anyWw (f : Int) : List Wait_T → Bool
 | [] => false
 | w :: r => decide (w.2.2.1 = f) || anyWw f r
def aheadNw (c f : Int) : List Wait_T → Bool
 | [] => false
 | w :: r => if w.2.2.1 = f then !decide (w.1 = c) else aheadNw c f r
def ahXw (l : List Wait_T) (c f : Int) : Ex × St := if anyWw f l = true then (.ret, { fr := [(6, .bool (aheadNw c f l))], bs := [], df := [] }) else (.exit 0, { fr := [], bs := [], df := [] })
theorem ahlw : (loopsOf 0 (codeOf Try.prog 47)).map (·.1) = [0] := by kernel_rfl
theorem ahow : OneLoops Try.prog 47 := by unfold OneLoops; rw [ahlw]; decide
theorem ahaw : At 0 (codeOf Try.prog 47) 0 (.loop (bodyAt Try.prog 47 0)) := at_body ahow (by rw [ahlw]; decide)
theorem arlw : (loopsOf 0 (codeOf Try.prog 21)).map (·.1) = [0] := by kernel_rfl
theorem arow : OneLoops Try.prog 21 := by unfold OneLoops; rw [arlw]; decide
theorem araw : At 0 (codeOf Try.prog 21) 0 (.loop (bodyAt Try.prog 21 0)) := at_body arow (by rw [arlw]; decide)
theorem ah_runw (x : Bool) (l : List Wait_T) (c f : Int) (hl : l.length ≤ 100000) : ∀ (j i : Nat), i + j = l.length → ∀ (m : Nat), j < m → Runs' Try.prog cfg PKz 47 0 m (ahhw x l c f i) (ahXw (l.drop i) c f)
 | 0, i, hi, m + 1, hm => by
  rw [List.drop_of_length_le (by omega)]
  refine Runs'.done (lp := LP0) LPok.none ahaw ((ah_sw_w x l c f i).trans ?_)
  unfold ah_sw_r
  rw [bK_neg (by simp; omega)]
  rfl
 | j + 1, i, hi, m + 1, hm => by
  have hi' : i < l.length := by omega
  have e : l.drop i = l[i] :: l.drop (i + 1) := List.drop_eq_getElem_cons hi'
  have e2 : l.getD (i : Int).toNat (0, 0, 0, 0) = l[i] := by rw [Int.toNat_natCast, getD_at hi']
  rw [e]
  by_cases h : l[i].2.2.1 = f
  ·have : ahXw (l[i] :: l.drop (i + 1)) c f = (.ret, { fr := [(6, .bool !decide (l[i].1 = c))], bs := [], df := [] }) := by
    unfold ahXw anyWw aheadNw
    rw [decide_eq_true h, Bool.true_or, if_pos rfl, if_pos h]
   rw [this]
   refine Runs'.done (lp := LP0) LPok.none ahaw ((ah_sw_w x l c f i).trans ?_)
   unfold ah_sw_r
   rw [bK_pos (by simp; omega)]
   refine oK_atq (Q := (· = _)) (fs := Wait_tfs) (0, 0, 0, 0) (by omega) (by simpa using hi') ?_
   rw [e2, bK_neg (by rw [decide_eq_true h]; rfl)]
  ·have : ahXw (l[i] :: l.drop (i + 1)) c f = ahXw (l.drop (i + 1)) c f := by
    unfold ahXw
    rw [anyWw, aheadNw, decide_eq_false h, Bool.false_or, if_neg h]
   rw [this]
   refine Runs'.step (lp := LP0) LPok.none ahaw ((ah_sw_w x l c f i).trans ?_) (ah_runw x l c f hl j (i + 1) (by omega) m (by omega))
   unfold ah_sw_r
   rw [bK_pos (by simp; omega)]
   refine oK_atq (Q := (· = _)) (fs := Wait_tfs) (0, 0, 0, 0) (by omega) (by simpa using hi') ?_
   rw [e2, bK_pos (by rw [decide_eq_false h]; rfl), w64 (by omega) (by omega)]
   rfl
theorem ar_runw (x : Bool) (l : List Wait_T) (c f : Int) (hl : l.length ≤ 100000) : ∀ (j i : Nat), i + j = l.length → ∀ (m : Nat), j < m → Runs' Try.prog cfg PKz 21 0 m (arhw x l c f i) (ahXw (l.drop i) c f)
 | 0, i, hi, m + 1, hm => by
  rw [List.drop_of_length_le (by omega)]
  refine Runs'.done (lp := LP0) LPok.none araw ((ar_sw_w x l c f i).trans ?_)
  unfold ar_sw_r
  rw [bK_neg (by simp; omega)]
  rfl
 | j + 1, i, hi, m + 1, hm => by
  have hi' : i < l.length := by omega
  have e : l.drop i = l[i] :: l.drop (i + 1) := List.drop_eq_getElem_cons hi'
  have e2 : l.getD (i : Int).toNat (0, 0, 0, 0) = l[i] := by rw [Int.toNat_natCast, getD_at hi']
  have at_ : ∀ {Q : Option (St ⊕ (Ex × St)) → Prop} {k : Wait_T → Option (St ⊕ (Ex × St))}, Q (k l[i]) → Q (oK (elemAt true Wait_tfs (l.map (mkV true Wait_tfs)) i) k) := fun hk => oK_atq (fs := Wait_tfs) (0, 0, 0, 0) (by omega) (by simpa using hi') (by rw [e2]; exact hk)
  rw [e]
  by_cases h : l[i].2.2.1 = f
  ·have : ahXw (l[i] :: l.drop (i + 1)) c f = (.ret, { fr := [(6, .bool !decide (l[i].1 = c))], bs := [], df := [] }) := by
    unfold ahXw anyWw aheadNw
    rw [decide_eq_true h, Bool.true_or, if_pos rfl, if_pos h]
   rw [this]
   refine Runs'.done (lp := LP0) LPok.none araw ((ar_sw_w x l c f i).trans ?_)
   unfold ar_sw_r
   rw [bK_pos (by simp; omega)]
   refine at_ (Q := (· = _)) ?_
   refine bK_i (fun hc => ?_) (fun hc => ?_)
   ·refine at_ (Q := (· = _)) ?_
    rw [bK_pos (decide_eq_true h), decide_eq_true hc]
    rfl
   ·refine at_ (Q := (· = _)) ?_
    rw [bK_pos (decide_eq_true h), decide_eq_false hc]
    rfl
  ·have : ahXw (l[i] :: l.drop (i + 1)) c f = ahXw (l.drop (i + 1)) c f := by
    unfold ahXw
    rw [anyWw, aheadNw, decide_eq_false h, Bool.false_or, if_neg h]
   rw [this]
   refine Runs'.step (lp := LP0) LPok.none araw ((ar_sw_w x l c f i).trans ?_) (ar_runw x l c f hl j (i + 1) (by omega) m (by omega))
   unfold ar_sw_r
   have e1 : IntKind.i64.wrap ((i : Int) + 1) = ((i + 1 : Nat) : Int) := by rw [w64 (by omega) (by omega)]; omega
   rw [bK_pos (by simp; omega), e1]
   refine at_ (Q := (· = _)) ?_
   refine bK_i (fun hc => ?_) (fun hc => ?_)
   ·refine at_ (Q := (· = _)) ?_
    rw [bK_neg (decide_eq_false h)]
    refine at_ (Q := (· = _)) ?_
    rw [bK_neg (decide_eq_false h)]
    rfl
   ·refine at_ (Q := (· = _)) ?_
    rw [bK_neg (decide_eq_false h)]
    rfl
abbrev AhDw : Type := (Bool × List Wait_T) × Int × Int
def ahHw (d : AhDw) : St := ahhw d.1.1 d.1.2 d.2.1 d.2.2 0
def arHw (d : AhDw) : St := arhw d.1.1 d.1.2 d.2.1 d.2.2 0
def anyQw (d : AhDw) : Bool := anyWw d.2.2 d.1.2
def aheadQw (d : AhDw) : Bool := aheadNw d.2.1 d.2.2 d.1.2
def ahOw (d : AhDw) : Alt (Ex × St) := .ite (anyQw d) (.leaf (.ret, { fr := [(6, .bool (aheadQw d))], bs := [], df := [] })) (.leaf (.exit 0, { fr := [], bs := [], df := [] }))
noncomputable def ahLw : LP := LP.of ahHw (fun d => d.1.2.length ≤ 100000) ahOw
noncomputable def arLw : LP := LP.of arHw (fun d => d.1.2.length ≤ 100000) ahOw
noncomputable def ahPw : LPs := LPs.add LP0 47 0 ahLw
noncomputable def arPw : LPs := LPs.add LP0 21 0 arLw
theorem ahO_valw (x : Bool) (l : List Wait_T) (c f : Int) : (ahOw ((x, l), c, f)).val = ahXw l c f := rfl
theorem ahP_okw : LPok Try.prog cfg PKz ahPw 47 := LPok.addH LPok.none ahow (by
 rintro ⟨⟨x, l⟩, c, f⟩ h
 have h2 : l.length ≤ 100000 := h
 exact ah_runw x l c f h2 l.length 0 (by omega) rounds (by simp only [rounds]; omega))
theorem arP_okw : LPok Try.prog cfg PKz arPw 21 := LPok.addH LPok.none arow (by
 rintro ⟨⟨x, l⟩, c, f⟩ h
 have h2 : l.length ≤ 100000 := h
 exact ar_runw x l c f h2 l.length 0 (by omega) rounds (by simp only [rounds]; omega))
theorem ahH_injw (d d' : AhDw) (h : ahHw d = ahHw d') : d = d' := by
 obtain ⟨⟨x, l⟩, c, f⟩ := d
 obtain ⟨⟨x', l'⟩, c', f'⟩ := d'
 simp only [ahHw, ahhw, St.mk.injEq, List.cons.injEq, Prod.mk.injEq, AV.slc.injEq, AV.int.injEq, and_true, true_and] at h
 have e1 := map_inj (fs := Wait_tfs) rfl h.2.2.1.2
 rw [h.1, h.2.1, h.2.2.1.1, e1]
theorem arH_injw (d d' : AhDw) (h : arHw d = arHw d') : d = d' := by
 obtain ⟨⟨x, l⟩, c, f⟩ := d
 obtain ⟨⟨x', l'⟩, c', f'⟩ := d'
 simp only [arHw, arhw, St.mk.injEq, List.cons.injEq, Prod.mk.injEq, AV.slc.injEq, AV.int.injEq, and_true, true_and] at h
 have e1 := map_inj (fs := Wait_tfs) rfl h.1.2
 rw [h.1.1, e1, h.2.1, h.2.2]
abbrev aheadw_id : Nat := 47
abbrev aheadw_sh : Shp := [none, none, none]
abbrev aheadw_fs : List Lf := [.fl true Wait_tfs, .fi .i64, .fi .i64]
abbrev aheadw_rsh : Shp := [none]
abbrev aheadw_rfs : List Lf := [.fb]
noncomputable def aheadw_r (l_x : Bool) (l : List Wait_T) (client : Int) (file : Int) : Option Ret :=
 oK (ahLw.dec (sf [(1, i6 client), (2, i6 file), (9, sl l_x l), (10, i6 (↑(mW l).length : Int)), (11, i6 0)] [])) fun (d0 : LW × Int × Int) => bK (anyQw d0) (some (rt (.bool (aheadQw d0)))) (some (rt (.bool false)))
theorem aheadw_w (l_x : Bool) (l : List Wait_T) (client : Int) (file : Int) : unitQ Try.prog cfg PKz ahPw false 47 (groupA aheadw_sh (Tu.mk aheadw_fs ((l_x, l), client, file))) [] = aheadw_r l_x l client file := by kernel_rfl

abbrev aheadRw_id : Nat := 21
abbrev aheadRw_sh : Shp := [none, none, none]
abbrev aheadRw_fs : List Lf := [.fl true Wait_tfs, .fi .i64, .fi .i64]
abbrev aheadRw_rsh : Shp := [none]
abbrev aheadRw_rfs : List Lf := [.fb]
noncomputable def aheadRw_r (l_x : Bool) (l : List Wait_T) (client : Int) (file : Int) : Option Ret :=
 oK (arLw.dec (sf [(0, sl l_x l), (1, i6 client), (2, i6 file), (7, i6 0)] [])) fun (d0 : LW × Int × Int) => bK (anyQw d0) (some (rt (.bool (aheadQw d0)))) (some (rt (.bool false)))
theorem aheadRw_w (l_x : Bool) (l : List Wait_T) (client : Int) (file : Int) : unitQ Try.prog cfg PKz arPw false 21 (groupA aheadRw_sh (Tu.mk aheadRw_fs ((l_x, l), client, file))) [] = aheadRw_r l_x l client file := by kernel_rfl

theorem any_aheadw (c f : Int) : ∀ l : List Wait_T, anyWw f l = false → aheadNw c f l = false
 | [], _ => rfl
 | w :: r, h => by
  unfold anyWw at h
  rw [Bool.or_eq_false_iff] at h
  unfold aheadNw
  rw [if_neg (of_decide_eq_false h.1)]
  exact any_aheadw c f r h.2
noncomputable def aheadSw : FS := ⟨aheadw_sh, aheadw_fs, aheadw_rsh, aheadw_rfs, fun d => d.1.2.length ≤ 100000, fun d => aheadQw d, none⟩
noncomputable def aheadRSw : FS := ⟨aheadRw_sh, aheadRw_fs, aheadRw_rsh, aheadRw_rfs, fun d => d.1.2.length ≤ 100000, fun d => aheadQw d, none⟩
theorem aheadOw : ∀ d : Tu aheadSw.fs, aheadSw.pre d → CallOk Try.prog 47 (aheadSw.args d) [] (aheadSw.ret d) := by
 rintro ⟨⟨x, l⟩, c, f⟩ h
 refine CallOk.unit (fnOk PKz_ok 21) rfl ahP_okw.loops (o := false) (by show 0 ≤ 1000; decide) ((aheadw_w x l c f).trans ?_)
 unfold aheadw_r
 refine oK_lpq (Q := (· = _)) ahH_injw ((x, l), c, f) h ?_
 show bK (anyWw f l) _ _ = some (aheadSw.out (aheadNw c f l))
 refine bK_b (fun _ => rfl) (fun hn => ?_)
 rw [any_aheadw c f l hn]
 rfl
theorem aheadROw : ∀ d : Tu aheadRSw.fs, aheadRSw.pre d → CallOk Try.prog 21 (aheadRSw.args d) [] (aheadRSw.ret d) := by
 rintro ⟨⟨x, l⟩, c, f⟩ h
 refine CallOk.unit (fnOk PKz_ok 21) rfl arP_okw.loops (o := false) (by show 0 ≤ 1000; decide) ((aheadRw_w x l c f).trans ?_)
 unfold aheadRw_r
 refine oK_lpq (Q := (· = _)) arH_injw ((x, l), c, f) h ?_
 show bK (anyWw f l) _ _ = some (aheadRSw.out (aheadNw c f l))
 refine bK_b (fun _ => rfl) (fun hn => ?_)
 rw [any_aheadw c f l hn]
 rfl

end Go.Proofs.Ytkanmigbbpppnaa
