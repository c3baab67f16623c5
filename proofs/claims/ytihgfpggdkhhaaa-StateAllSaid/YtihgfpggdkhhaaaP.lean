/- A part of the proof: contracts of functions. -/
import Derived.Test.YtihgfpggdkhhaaaN
import Derived.Test.YtihgfpggdkhhaaaAbAny
import Derived.Test.YtihgfpggdkhhaaaAbDel
set_option linter.unusedVariables false
set_option linter.unusedSimpArgs false
set_option maxRecDepth 100000
namespace Go.Proofs.Ytihgfpggdkhhaaa
open Go Go.Ab
theorem posD_eq (nm : List UInt8) : ∀ (l : List File_T) (i : Nat), D8posN nm l (i : Int) = (posN nm l i : Int) - 1
  | [], i => by unfold D8posN posN; rfl
  | f :: l, i => by
    unfold D8posN posN
    by_cases h : f.1 = nm
    · rw [if_pos h, if_pos h]; omega
    · rw [if_neg h, if_neg h]
      have := posD_eq nm l (i + 1)
      rw [← this]
      rfl
theorem mayD_eq (s : List UInt8) : D8mayN s = mayNF s := rfl
theorem find_same (x y : Bool) (l : List File_T) (nm : List UInt8) : (fdF (x, l, nm)) = findF l nm := by
  have hp : D8posF (x, l, nm) = (posN nm l 0 : Int) - 1 := posD_eq nm l 0
  unfold fdF findF
  by_cases hm : mayNF nm = true
  · rw [if_pos (show D8mayN nm = true from hm)]
    rw [show D8posF ((x, l, nm).1, (x, l, nm).2.1, (x, l, nm).2.2) = D8posF (x, l, nm) from rfl, hp]
    by_cases h0 : posN nm l 0 = 0
    · have hb : ¬ findB l nm = true := by unfold findB; rw [hm, h0]; decide
      rw [if_neg hb, h0]; rfl
    · have hb : findB l nm = true := by unfold findB; rw [hm, decide_eq_false h0]; rfl
      rw [if_pos hb]
      show (_, _) = ((posN nm l 0 : Int), true)
      rw [decide_eq_true (by omega)]
      congr 1
      omega
  · rw [if_neg (show ¬ D8mayN nm = true from hm)]
    have hb : ¬ findB l nm = true := by
      unfold findB
      intro hh
      rw [Bool.and_eq_true] at hh
      exact hm hh.1
    rw [if_neg hb]
theorem room_same (x : Bool) (l : List File_T) : (D8posF (x, l, []) + 1, decide (0 ≤ D8posF (x, l, []))) = roomF l := by
  have hp : D8posF (x, l, []) = (posN [] l 0 : Int) - 1 := posD_eq [] l 0
  rw [hp]
  unfold roomF
  by_cases h0 : posN [] l 0 = 0
  · have hb : posB [] l = true := decide_eq_true h0
    rw [if_pos hb, h0]; rfl
  · have hb : ¬ posB [] l = true := fun hh => h0 (of_decide_eq_true hh)
    rw [if_neg hb]
    show (_, _) = ((posN [] l 0 : Int), true)
    rw [decide_eq_true (by omega)]
    congr 1
    omega
theorem ldF0 (l : List File_T) (i : Nat) (h : i < l.length) : ldRow [Lf.fs] (l.map (mkV true File_tfs)) i 0 = some l[i].1 := by
  simp [ldRow, h, ldCells, mkV, mkA, AV.cells, Tu.mk, Lf.mk, Tu.dec, Lf.dec]
theorem ldF2 (l : List File_T) (i : Nat) (h : i < l.length) : ldRow [Lf.fs] (l.map (mkV true File_tfs)) i 2 = some l[i].2.2 := by
  simp [ldRow, h, ldCells, mkV, mkA, AV.cells, Tu.mk, Lf.mk, Tu.dec, Lf.dec]
theorem ldF1 (l : List File_T) (i : Nat) (h : i < l.length) : ldRow refused_tfs (l.map (mkV true File_tfs)) i 1 = some l[i].2.1 := by
  simp [ldRow, h, ldCells, mkV, mkA, AV.cells, Tu.mk, Lf.mk, Tu.dec, Lf.dec]
theorem stF2 (l : List File_T) (i : Nat) (h : i < l.length) (b : List UInt8) : stRow (l.map (mkV true File_tfs)) i 2 [.str b] = some ((l.set i (l[i].1, l[i].2.1, b)).map (mkV true File_tfs)) := by
  simp [stRow, h, splice, mkV, mkA, AV.cells, AV.recell, Tu.mk, Lf.mk, List.map_set]
theorem stF1 (l : List File_T) (i : Nat) (h : i < l.length) (v : Int) : stRow (l.map (mkV true File_tfs)) i 1 [.int .i64 v] = some ((l.set i (l[i].1, v, l[i].2.2)).map (mkV true File_tfs)) := by
  simp [stRow, h, splice, mkV, mkA, AV.cells, AV.recell, Tu.mk, Lf.mk, List.map_set]
def sokP (s : State_T) : Prop := (1 ≤ s.1.2.length ∧ s.1.2.length ≤ 100000) ∧ 1 ≤ s.2.1.2.length ∧ s.2.1.2.length ≤ 100000
theorem fin_eq (ep c q e a v : Int) (M : List Mark_T) (hM : 1 ≤ M.length ∧ M.length ≤ 100000) (F : List File_T) (n : Nat) (hn : n = F.length) (d : List AV) (hd : d = F.map (mkV true File_tfs)) :
    (bK (decide (0 + (List.map (mkV true Mark_tfs) M).length ≤ (List.map (mkV true Mark_tfs) M).length)) (oK (mpP.dec [AV.slc false (List.take (List.map (mkV true Mark_tfs) M).length (List.drop 0 (List.map (mkV true Mark_tfs) M))), AV.int .i64 c, AV.agg [AV.int .i64 q, AV.int .i64 e, AV.int .i64 a, AV.int .i64 v]] []) fun (dd : MpD) => bK (decide (0 + (List.map (mkV true Mark_tfs) (putLF dd)).length ≤ (List.map (mkV true Mark_tfs) (putLF dd)).length)) (bK (decide (0 + n ≤ d.length)) (some ({ pan := false, res := AV.tup [AV.agg [AV.slc false (List.take n (List.drop 0 d)), AV.slc false (List.take (List.map (mkV true Mark_tfs) (putLF dd)).length (List.drop 0 (List.map (mkV true Mark_tfs) (putLF dd)))), AV.int .i64 ep], AV.agg [AV.int .i64 q, AV.int .i64 e, AV.int .i64 a, AV.int .i64 v]], out := [], new := [] } : Ret)) none) none) none) = some ({ pan := false, res := AV.tup [AV.agg [AV.slc false (List.map (mkV true File_tfs) F), AV.slc false (List.map (mkV true Mark_tfs) (putL M c (q, e, a, v))), AV.int .i64 ep], AV.agg [AV.int .i64 q, AV.int .i64 e, AV.int .i64 a, AV.int .i64 v]], out := [], new := [] } : Ret) := by
  subst hn hd
  rw [bK_pos (by simp), List.drop_zero, List.take_length]
  refine oK_pkq (Q := fun z => z = _) mpA_inj ((false, M), c, (q, e, a, v)) hM ?_
  have hp : putLF ((false, M), c, q, e, a, v) = putL M c (q, e, a, v) := rfl
  rw [hp, bK_pos (by simp), bK_pos (by simp), List.drop_zero, List.drop_zero, List.take_length, List.take_of_length_le (by simp)]
theorem refuse (s : State_T) (c q e : Int) (h : sokP s) :
    (oK (cfP.dec [AV.slc s.1.1 (List.map (mkV true File_tfs) s.1.2)] []) fun (d2 : Bool × List File_T) => oK (cmP.dec [AV.slc s.2.1.1 (List.map (mkV true Mark_tfs) s.2.1.2)] []) fun (d3 : Bool × List Mark_T) => bK (decide (0 + (List.map (mkV true Mark_tfs) d3.snd).length ≤ (List.map (mkV true Mark_tfs) d3.snd).length)) (oK (mpP.dec [AV.slc false (List.take (List.map (mkV true Mark_tfs) d3.snd).length (List.drop 0 (List.map (mkV true Mark_tfs) d3.snd))), AV.int .i64 c, AV.agg [AV.int .i64 q, AV.int .i64 e, AV.int .i64 0, AV.int .i64 0]] []) fun (dd : MpD) => bK (decide (0 + (List.map (mkV true Mark_tfs) (putLF dd)).length ≤ (List.map (mkV true Mark_tfs) (putLF dd)).length)) (bK (decide (0 + (List.map (mkV true File_tfs) d2.snd).length ≤ (List.map (mkV true File_tfs) d2.snd).length)) (some ({ pan := false, res := AV.tup [AV.agg [AV.slc false (List.take (List.map (mkV true File_tfs) d2.snd).length (List.drop 0 (List.map (mkV true File_tfs) d2.snd))), AV.slc false (List.take (List.map (mkV true Mark_tfs) (putLF dd)).length (List.drop 0 (List.map (mkV true Mark_tfs) (putLF dd)))), AV.int .i64 s.2.2], AV.agg [AV.int .i64 q, AV.int .i64 e, AV.int .i64 0, AV.int .i64 0]], out := [], new := [] } : Ret)) none) none) none)
    = some (openRS.out (sOut (markF s c (q, e, 0, 0) 0 zF, (q, e, 0, 0)))) := by
  refine oK_pkq (Q := fun z => z = _) cf_inj s.1 h.1 ?_
  refine oK_pkq (Q := fun z => z = _) cm_inj s.2.1 h.2 ?_
  exact fin_eq s.2.2 c q e 0 0 s.2.1.2 h.2 s.1.2 _ (by simp) _ rfl
noncomputable def gonePS : FS := ⟨goneP_sh, goneP_fs, goneP_rsh, goneP_rfs, fun d => sokP (gS d), fun d => sOut (goneQ (gS d) d.2.2.2.1 d.2.2.2.2.1 d.2.2.2.2.2), none⟩
theorem gonePO : ∀ d : Tu gonePS.fs, gonePS.pre d → CallOk Try.prog 19 (gonePS.args d) [] (gonePS.ret d) := by
  rintro ⟨⟨fx, F⟩, ⟨mx, M⟩, ep, c, q, n⟩ h
  have hs : sokP ((fx, F), (mx, M), ep) := h
  have hF := hs.1
  have hM := hs.2
  simp only at hF hM
  refine CallOk.unit (fnOk N2_ok 21) rfl fLoops_none (o := false) (by show 0 ≤ 1000; decide) ((goneP_w fx F mx M ep c q n).trans ?_)
  show _ = some (goneRS.out (sOut (goneF ((fx, F), (mx, M), ep) c q n)))
  have no : isF F n = false → ∀ z : Option Ret, z = some (openRS.out (sOut (markF ((fx, F), (mx, M), ep) c (q, 2, 0, 0) 0 zF, (q, 2, 0, 0)))) → z = some (goneRS.out (sOut (goneF ((fx, F), (mx, M), ep) c q n))) := by
    intro hn z hz
    unfold goneF
    rw [if_neg (by rw [hn]; simp), hz]
    rfl
  unfold goneP_r
  refine oK_pkq (Q := fun z => z = _) cf_inj (fx, F) hF ?_
  refine oK_pkq (Q := fun z => z = _) cm_inj (mx, M) hM ?_
  simp only
  refine bK_i (fun c1 => no (by unfold isF; rw [decide_eq_false (by omega), Bool.false_and]) _ (refuse ((fx, F), (mx, M), ep) c q 2 hs)) (fun c1 => ?_)
  rw [bK_pos (by simp)]
  refine bK_i (fun c2 => no (by unfold isF; rw [List.length_map] at c2; rw [decide_eq_false (by omega), Bool.false_and]) _ (refuse ((fx, F), (mx, M), ep) c q 2 hs)) (fun c2 => ?_)
  rw [List.length_map] at c2
  have hi : (n - 1).toNat < F.length := by omega
  rw [w64 (n := n - 1) (by omega) (by omega), bK_pos (by simp; omega), bK_pos (by simp; omega), Nat.zero_add]
  refine (oK_pos (ldF0 F _ hi)).trans ?_
  have hg : F.getD (n - 1).toNat ([], 0, []) = F[(n - 1).toNat] := getD_at hi _
  refine bK_i (fun c3 => no (by unfold isF; rw [hg, decide_eq_true c3]; simp) _ (refuse ((fx, F), (mx, M), ep) c q 2 hs)) (fun c3 => ?_)
  have yes : isF F n = true := by unfold isF; rw [hg, decide_eq_false c3, decide_eq_true (by omega)]; rfl
  rw [bK_pos (by simp; omega), bK_pos (by simp; omega)]
  refine (oK_pos (stRow_map (fs := File_tfs) F (n - 1).toNat hi zF)).trans ?_
  unfold goneF
  rw [if_pos yes]
  have e : markF ((fx, F), (mx, M), ep) c (q, 0, n, 0) n zF = ((false, F.set (n - 1).toNat zF), (false, putL M c (q, 0, n, 0)), ep) := by unfold markF setF; rw [if_pos (by omega)]
  rw [e]
  exact fin_eq ep c q 0 n 0 M hM (F.set (n - 1).toNat zF) _ (by simp) _ rfl
noncomputable def openPS : FS := ⟨openP_sh, openP_fs, openP_rsh, openP_rfs, fun d => sokP (oS d) ∧ d.2.2.2.2.2.length ≤ 1000, fun d => sOut (openQ (oS d) d.2.2.2.1 d.2.2.2.2.1 d.2.2.2.2.2), none⟩
theorem openPO : ∀ d : Tu openPS.fs, openPS.pre d → CallOk Try.prog 14 (openPS.args d) [] (openPS.ret d) := by
  rintro ⟨⟨fx, F⟩, ⟨mx, M⟩, ep, c, q, nm⟩ ⟨h, hnm⟩
  have hs : sokP ((fx, F), (mx, M), ep) := h
  have hnm' : nm.length ≤ 1000 := hnm
  have hF := hs.1
  have hM := hs.2
  simp only at hF hM
  refine CallOk.unit (fnOk N2_ok 21) rfl fLoops_none (o := false) (by show 0 ≤ 1000; decide) ((openP_w fx F mx M ep c q nm).trans ?_)
  show _ = some (openRS.out (sOut (openF ((fx, F), (mx, M), ep) c q nm)))
  unfold openP_r openF
  refine oK_pkq (Q := fun z => z = _) cf_inj (fx, F) hF ?_
  refine oK_pkq (Q := fun z => z = _) cm_inj (mx, M) hM ?_
  refine oK_fsq (Q := fun z => z = _) mayS nm hnm' ?_
  rw [mayD_eq]
  refine bK_b (fun c1 => ?_) (fun c1 => ?_)
  · rw [if_neg (by simpa using c1)]
    exact refuse ((fx, F), (mx, M), ep) c q 1 hs
  · rw [if_pos (by simpa using c1), bK_pos (by simp), List.drop_zero, List.take_length]
    refine oK_fsq (Q := fun z => z = _) findDS ((false, F), nm) ⟨hF.2, hnm'⟩ ?_
    simp only
    rw [find_same false false F nm]
    refine bK_b (fun c2 => ?_) (fun c2 => ?_)
    · have c2' : ¬ (findF F nm).2 = true := by simpa using c2
      rw [if_neg c2', bK_pos (by simp)]
      refine oK_fsq (Q := fun z => z = _) roomDS (false, F) hF.2 ?_
      have hr := room_same false F
      have hr1 : D8posF (false, F, []) + 1 = (roomF F).1 := congrArg Prod.fst hr
      have hr2 : decide (0 ≤ D8posF (false, F, [])) = (roomF F).2 := congrArg Prod.snd hr
      simp only
      rw [hr2, hr1]
      refine bK_b (fun c3 => ?_) (fun c3 => ?_)
      · rw [if_neg (by simpa using c3)]
        exact refuse ((fx, F), (mx, M), ep) c q 3 hs
      · have c3' : (roomF F).2 = true := by simpa using c3
        have hin := roomF_in F c3'
        have hi : ((roomF F).1 - 1).toNat < F.length := by omega
        rw [if_pos c3', w64 (n := (roomF F).1 - 1) (by omega) (by omega), bK_pos (by simp; omega), Nat.zero_add]
        refine (oK_pos (stRow_map (fs := File_tfs) F _ hi (nm, 1, []))).trans ?_
        rw [bK_pos (by simp; omega), bK_pos (by simp; omega)]
        refine (oK_pos (ldF1 _ _ (by simpa using hi))).trans ?_
        have e1 : (F.set ((roomF F).1 - 1).toNat (nm, 1, []))[((roomF F).1 - 1).toNat]'(by simpa using hi) = (nm, 1, []) := by simp
        rw [e1]
        have e : markF ((fx, F), (mx, M), ep) c (q, 0, (roomF F).1, 1) (roomF F).1 (nm, 1, []) = ((false, F.set ((roomF F).1 - 1).toNat (nm, 1, [])), (false, putL M c (q, 0, (roomF F).1, 1)), ep) := by unfold markF setF; rw [if_pos (by omega)]
        rw [e]
        exact fin_eq ep c q 0 (roomF F).1 1 M hM (F.set ((roomF F).1 - 1).toNat (nm, 1, [])) _ (by simp) _ rfl
    · have c2' : (findF F nm).2 = true := by simpa using c2
      have hin := findF_in F nm c2'
      have hi : ((findF F nm).1 - 1).toNat < F.length := by omega
      rw [if_pos c2', w64 (n := (findF F nm).1 - 1) (by omega) (by omega), bK_pos (by simp; omega), bK_pos (by simp; omega), Nat.zero_add]
      refine (oK_pos (ldF1 F _ hi)).trans ?_
      rw [getD_at hi]
      have hfin := fin_eq ep c q 0 (findF F nm).1 F[((findF F nm).1 - 1).toNat].2.1 M hM F (List.map (mkV true File_tfs) F).length (by rw [List.length_map]) _ rfl
      have hT : List.take (List.map (mkV true File_tfs) F).length (List.drop 0 (List.map (mkV true File_tfs) F)) = List.map (mkV true File_tfs) F := by rw [List.drop_zero, List.take_length]
      rw [hT] at hfin
      exact hfin
theorem allMay_iff (l : List Write_T) : allMay l = true ↔ ∀ w ∈ l, mayB w := by
  simp [allMay]
theorem bad_may (l : List Write_T) (x : Bool) : decide (0 ≤ badF (x, l)) = !allMay l := by
  have h := badN_all l 0 (by omega)
  have e : badF (x, l) = badN l 0 := rfl
  rw [e]
  by_cases ha : allMay l = true
  · rw [ha, h.2 ((allMay_iff l).1 ha)]; rfl
  · have hn : ¬ badN l 0 = -1 := fun hh => ha ((allMay_iff l).2 (h.1 hh))
    have := badN_ge l 0 (by omega)
    rw [decide_eq_true (by omega)]
    simp [ha]
noncomputable def flushPS : FS := ⟨flushP_sh, flushP_fs, flushP_rsh, flushP_rfs, fun d => (sokP (fS d) ∧ ∀ f ∈ (fS d).1.2, f.2.2.length ≤ 24) ∧ d.2.2.2.2.2.2.2.length ≤ 1000, fun d => sOut (flushQ (fS d) d.2.2.2.1 d.2.2.2.2.1 d.2.2.2.2.2.1 d.2.2.2.2.2.2.2), none⟩
theorem flushPO : ∀ d : Tu flushPS.fs, flushPS.pre d → CallOk Try.prog 16 (flushPS.args d) [] (flushPS.ret d) := by
  rintro ⟨⟨fx, F⟩, ⟨mx, M⟩, ep, c, q, n, ⟨lx, l⟩⟩ ⟨⟨h, hb⟩, hll⟩
  have hs : sokP ((fx, F), (mx, M), ep) := h
  have hb' : ∀ f ∈ F, f.2.2.length ≤ 24 := hb
  have hl : l.length ≤ 1000 := hll
  have hF := hs.1
  have hM := hs.2
  simp only at hF hM
  refine CallOk.unit (fnOk N2_ok 21) rfl fLoops_none (o := false) (by show 0 ≤ 1000; decide) ((flushP_w fx F mx M ep c q n lx l).trans ?_)
  show _ = some (flushRS.out (sOut (flushF ((fx, F), (mx, M), ep) c q n l)))
  have no : isF F n = false → ∀ z : Option Ret, z = some (openRS.out (sOut (markF ((fx, F), (mx, M), ep) c (q, 2, 0, 0) 0 zF, (q, 2, 0, 0)))) → z = some (flushRS.out (sOut (flushF ((fx, F), (mx, M), ep) c q n l))) := by
    intro hn z hz
    unfold flushF
    rw [if_neg (by rw [hn]; simp), hz]
    rfl
  unfold flushP_r
  refine oK_pkq (Q := fun z => z = _) cf_inj (fx, F) hF ?_
  refine oK_pkq (Q := fun z => z = _) cm_inj (mx, M) hM ?_
  simp only
  refine bK_i (fun c1 => no (by unfold isF; rw [decide_eq_false (by omega), Bool.false_and]) _ (refuse ((fx, F), (mx, M), ep) c q 2 hs)) (fun c1 => ?_)
  rw [bK_pos (by simp)]
  refine bK_i (fun c2 => no (by unfold isF; rw [List.length_map] at c2; rw [decide_eq_false (by omega), Bool.false_and]) _ (refuse ((fx, F), (mx, M), ep) c q 2 hs)) (fun c2 => ?_)
  rw [List.length_map] at c2
  have hi : (n - 1).toNat < F.length := by omega
  rw [w64 (n := n - 1) (by omega) (by omega), bK_pos (by simp; omega), bK_pos (by simp; omega), Nat.zero_add]
  refine (oK_pos (ldF0 F _ hi)).trans ?_
  have hg : F.getD (n - 1).toNat ([], 0, []) = F[(n - 1).toNat] := getD_at hi _
  refine bK_i (fun c3 => no (by unfold isF; rw [hg, decide_eq_true c3]; simp) _ (refuse ((fx, F), (mx, M), ep) c q 2 hs)) (fun c3 => ?_)
  have yes : isF F n = true := by unfold isF; rw [hg, decide_eq_false c3, decide_eq_true (by omega)]; rfl
  have no1 : mayL l = false → ∀ z : Option Ret, z = some (openRS.out (sOut (markF ((fx, F), (mx, M), ep) c (q, 1, 0, 0) 0 zF, (q, 1, 0, 0)))) → z = some (flushRS.out (sOut (flushF ((fx, F), (mx, M), ep) c q n l))) := by
    intro hn z hz
    unfold flushF
    rw [if_pos yes, if_neg (by rw [hn]; simp), hz]
    rfl
  rw [bK_pos (by simp; omega)]
  refine bK_i (fun c4 => no1 (by unfold mayL; rw [List.length_map] at c4; rw [decide_eq_false (by omega), Bool.false_and]) _ (refuse ((fx, F), (mx, M), ep) c q 1 hs)) (fun c4 => ?_)
  refine bK_i (fun c5 => no1 (by unfold mayL; rw [List.length_map] at c5; rw [decide_eq_false (by omega), Bool.false_and]) _ (refuse ((fx, F), (mx, M), ep) c q 1 hs)) (fun c5 => ?_)
  rw [List.length_map] at c4 c5
  refine oK_pkq (Q := fun z => z = _) cwArg_inj (lx, l) (by show l.length ≤ 100000; omega) ?_
  rw [bad_may]
  refine bK_b (fun c6 => no1 (by unfold mayL; rw [show allMay l = false by simpa using c6, Bool.and_false]) _ (refuse ((fx, F), (mx, M), ep) c q 1 hs)) (fun c6 => ?_)
  have ym : mayL l = true := by unfold mayL; rw [show allMay l = true by simpa using c6, decide_eq_true (by omega)]; rfl
  rw [bK_pos (by simp; omega), bK_pos (by simp; omega)]
  refine (oK_pos (ldF2 F _ hi)).trans ?_
  have hbody : F[(n - 1).toNat].2.2.length ≤ 24 := hb' _ (List.getElem_mem _)
  refine oK_fsq (Q := fun z => z = _) allWS (F[(n - 1).toNat].2.2, (lx, l)) ⟨hbody, hl⟩ ?_
  rw [bK_pos (by simp; omega), bK_pos (by simp; omega)]
  refine (oK_pos (ldF1 F _ hi)).trans ?_
  rw [bK_pos (by simp; omega), bK_pos (by simp; omega)]
  refine (oK_pos (stF2 F _ hi _)).trans ?_
  rw [bK_pos (by simp; omega), bK_pos (by simp; omega)]
  refine (oK_pos (stF1 _ _ (by simpa using hi) _)).trans ?_
  rw [bK_pos (by simp; omega), bK_pos (by simp; omega)]
  refine (oK_pos (ldF1 _ _ (by simpa using hi))).trans ?_
  unfold flushF
  rw [if_pos yes, if_pos ym]
  have hg' : F.getD (n - 1).toNat zF = F[(n - 1).toNat] := getD_at hi _
  simp only [hg', List.getElem_set_self, List.set_set]
  have e : ∀ v f, markF ((fx, F), (mx, M), ep) c (q, 0, n, v) n f = ((false, F.set (n - 1).toNat f), (false, putL M c (q, 0, n, v)), ep) := fun v f => by unfold markF setF; rw [if_pos (by omega)]
  rw [e]
  exact fin_eq ep c q 0 n (verN F[(n - 1).toNat].2.1) M hM (F.set (n - 1).toNat (F[(n - 1).toNat].1, verN F[(n - 1).toNat].2.1, allF F[(n - 1).toNat].2.2 l)) _ (by simp) _ rfl

end Go.Proofs.Ytihgfpggdkhhaaa
