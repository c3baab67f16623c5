/- A part of the proof: contracts of functions. -/
import Derived.Test.YtihgfpggdkhhaaaK
import Derived.Test.YtihgfpggdkhhaaaAbAny

set_option linter.unusedVariables false
set_option linter.unusedSimpArgs false
set_option maxRecDepth 100000
namespace Go.Proofs.Ytihgfpggdkhhaaa
open Go Go.Ab
noncomputable def samesPS : FS := ⟨ssP_sh, ssP_fs, ssP_rsh, ssP_rfs, fun d => (sa d).1.2.length ≤ 100000 ∧ (sa d).2.1.2.length ≤ 100000, fun d => stEqQ (sa d) (sb d), none⟩
theorem samesPV (fx : Bool) (F : List File_T) (mx : Bool) (M : List Mark_T) (ep : Int) (gx : Bool) (G : List File_T) (nx : Bool) (N : List Mark_T) (eq : Int) (h1 : F.length ≤ 100000) (h2 : M.length ≤ 100000) : ssP_r fx F mx M ep gx G nx N eq = some (samesPS.out (stEqQ ((fx, F), (mx, M), ep) ((gx, G), (nx, N), eq))) := by
  have e : stEqQ ((fx, F), (mx, M), ep) ((gx, G), (nx, N), eq) = decide (F = G ∧ M = N ∧ ep = eq) := rfl
  rw [e]
  have q2 : skQ M N = decide (M = N) := rfl
  have q1 : fsEqQ F G = decide (F = G) := rfl
  unfold ssP_r
  refine bK_nq (Q := fun z => z = _) (fun c1 => ?_) (fun c1 => ?_)
  · rw [decide_eq_false (fun hh => c1 (by rw [hh.1]))]; rfl
  rw [List.length_map, List.length_map] at c1
  refine oK_fsq (Q := fun z => z = _) skS ((mx, M), (nx, N)) h2 ?_
  dsimp only
  rw [q2]
  refine bK_nq (Q := fun z => z = _) (fun c2 => ?_) (fun c2 => ?_)
  · rw [decide_eq_false (fun hh => c2 hh.2.1)]; rfl
  refine bK_nq (Q := fun z => z = _) (fun c3 => ?_) (fun c3 => ?_)
  · rw [decide_eq_false (fun hh => c3 hh.2.2)]; rfl
  refine oK_lpq (Q := fun z => z = _) ssHd_inj (((fx, F), (mx, M), ep), ((gx, G), (nx, N), eq)) ⟨by show F.length = G.length; omega, h1⟩ ?_
  dsimp only
  rw [q1]
  refine bK_iq (Q := fun z => z = _) (fun c4 => ?_) (fun c4 => ?_)
  · rw [decide_eq_true ⟨c4, c2, c3⟩]; rfl
  · rw [decide_eq_false (fun hh => c4 hh.1)]; rfl
theorem samesPO : ∀ d : Tu samesPS.fs, samesPS.pre d → CallOk Try.prog 18 (samesPS.args d) [] (samesPS.ret d)
  | ((fx, F), (mx, M), ep, (gx, G), (nx, N), eq), h => CallOk.unit (fnOk E3_ok 21) rfl ssLP_ok.loops (o := false) (by show 0 ≤ 1000; decide) ((ssP_w fx F mx M ep gx G nx N eq).trans (samesPV fx F mx M ep gx G nx N eq h.1 h.2))
noncomputable def J2 : PKs := J1.add 18 samesPS.pk
theorem J2_ok : PKsOk Try.prog J2 := PKsOk.anyF J1_ok 18 samesPS samesPO
theorem tustF0 (l : List File_T) (i : Nat) (h : i < l.length) (a : List UInt8) : stRow (l.map (mkV true File_tfs)) i 0 [.str a] = some ((l.set i (a, (l.getD i zF).2)).map (mkV true File_tfs)) := by
  rw [getD_at h]
  simp [stRow, h, splice, mkV, mkA, AV.cells, AV.recell, Tu.mk, Lf.mk, List.map_set]
theorem tustF1 (l : List File_T) (i : Nat) (h : i < l.length) (a : Int) : stRow (l.map (mkV true File_tfs)) i 1 [.int .i64 a] = some ((l.set i ((l.getD i zF).1, a, (l.getD i zF).2.2)).map (mkV true File_tfs)) := by
  rw [getD_at h]
  simp [stRow, h, splice, mkV, mkA, AV.cells, AV.recell, Tu.mk, Lf.mk, List.map_set]
theorem tustF2 (l : List File_T) (i : Nat) (h : i < l.length) (a : List UInt8) : stRow (l.map (mkV true File_tfs)) i 2 [.str a] = some ((l.set i ((l.getD i zF).1, (l.getD i zF).2.1, a)).map (mkV true File_tfs)) := by
  rw [getD_at h]
  simp [stRow, h, splice, mkV, mkA, AV.cells, AV.recell, Tu.mk, Lf.mk, List.map_set]
theorem tustM0 (l : List Mark_T) (i : Nat) (h : i < l.length) (a : Int) : stRow (l.map (mkV true Mark_tfs)) i 0 [.int .i64 a] = some ((l.set i (a, (l.getD i zM).2)).map (mkV true Mark_tfs)) := by
  rw [getD_at h]
  simp [stRow, h, splice, mkV, mkA, AV.cells, AV.recell, Tu.mk, Lf.mk, List.map_set]
theorem tustM1 (l : List Mark_T) (i : Nat) (h : i < l.length) (a : Int) : stRow (l.map (mkV true Mark_tfs)) i 1 [.int .i64 a] = some ((l.set i ((l.getD i zM).1, a, (l.getD i zM).2.2)).map (mkV true Mark_tfs)) := by
  rw [getD_at h]
  simp [stRow, h, splice, mkV, mkA, AV.cells, AV.recell, Tu.mk, Lf.mk, List.map_set]
theorem tuldF2 (l : List File_T) (i : Nat) (h : i < l.length) : ldRow [Lf.fs] (l.map (mkV true File_tfs)) i 2 = some (l.getD i zF).2.2 := by
  rw [getD_at h]
  simp [ldRow, h, ldCells, mkV, mkA, AV.cells, Tu.mk, Lf.mk, Tu.dec, Lf.dec]
def tuB : List UInt8 := [97, 110, 111, 116, 104, 101, 114, 32, 98, 111, 100, 121, 32, 111, 102, 32, 116, 104, 105, 115]
def tuK (s : State_T) (f : Int) : Int := (maxI f 0).tmod (s.1.2.length : Int)
/-- Something is another one. -/
def tuQ (s : State_T) (how f t : Int) : State_T :=
  let k := (tuK s f).toNat
  let g := s.1.2.getD k zF
  let k3 := ((tuK s f).tmod 3).toNat
  let m := s.2.1.2.getD k3 zM
  if how.tmod 10 = 0 then ((false, s.1.2), (false, s.2.1.2), t)
  else if how.tmod 10 = 1 then ((false, s.1.2.set k (g.1, t, g.2.2)), (false, s.2.1.2), s.2.2)
  else if how.tmod 10 = 2 then ((false, s.1.2.set k ([97], g.2)), (false, s.2.1.2), s.2.2)
  else if how.tmod 10 = 3 then ((false, s.1.2.set k ([97, 32, 98], g.2)), (false, s.2.1.2), s.2.2)
  else if how.tmod 10 = 4 then ((false, s.1.2.set k (g.1, g.2.1, g.2.2 ++ tuB)), (false, s.2.1.2), s.2.2)
  else if how.tmod 10 = 5 then ((false, s.1.2), (false, s.2.1.2.set k3 (t, m.2)), s.2.2)
  else if how.tmod 10 = 6 then ((false, s.1.2), (false, s.2.1.2.set k3 (m.1, t, m.2.2)), s.2.2)
  else if how.tmod 10 = 7 then ((false, s.1.2.take k), (false, s.2.1.2), s.2.2)
  else if how.tmod 10 = 8 then ((false, s.1.2), (false, s.2.1.2 ++ [zM]), s.2.2)
  else ((false, s.1.2), (false, s.2.1.2), s.2.2)
abbrev tS (d : Tu turn_fs) : State_T := (d.1, d.2.1, d.2.2.1)
noncomputable def turnS : FS := ⟨turn_sh, turn_fs, turn_rsh, turn_rfs, fun d => (tS d).1.2.length = 6 ∧ (tS d).2.1.2.length = 3 ∧ ∀ f ∈ (tS d).1.2, f.2.2.length ≤ 24, fun d => tuQ (tS d) d.2.2.2.1 d.2.2.2.2.1 d.2.2.2.2.2, none⟩
theorem bytesMk : Try.prog.bytesOf 40 = 32 := by kernel_rfl
theorem fitMk {n : Nat} (h : n ≤ 1000000) : bytesFit Try.prog 40 n = true := by
  simp only [bytesFit, bytesMk, decide_eq_true_eq]; omega
theorem bytesFk : Try.prog.bytesOf 56 = 40 := by kernel_rfl
theorem fitFk {n : Nat} (h : n ≤ 1000000) : bytesFit Try.prog 56 n = true := by
  simp only [bytesFit, bytesFk, decide_eq_true_eq]; omega
theorem all4M (l : List Mark_T) : ((l.map (mkV true Mark_tfs)).all fun y => decide (y.cells.length = 4)) = true := by
  simp [AV.cells, mkV, mkA, Tu.mk]
set_option maxHeartbeats 2000000 in
theorem turnV (fx : Bool) (F : List File_T) (mx : Bool) (M : List Mark_T) (ep how f t : Int) (h1 : F.length = 6) (h2 : M.length = 3) (h3 : ∀ f ∈ F, f.2.2.length ≤ 24) : turn_r fx F mx M ep how f t = some (turnS.out (tuQ ((fx, F), (mx, M), ep) how f t)) := by
  have hm : 0 ≤ maxI f 0 := by unfold maxI; split <;> omega
  have hk1 := Int.tmod_nonneg (6 : Int) hm
  have hk2 := Int.tmod_lt_of_pos (maxI f 0) (show (0 : Int) < 6 by decide)
  have hj1 := Int.tmod_nonneg (3 : Int) hk1
  have hj2 := Int.tmod_lt_of_pos ((maxI f 0).tmod 6) (show (0 : Int) < 3 by decide)
  have lF : (F.map (mkV true File_tfs)).length = 6 := by rw [List.length_map]; exact h1
  have lM : (M.map (mkV true Mark_tfs)).length = 3 := by rw [List.length_map]; exact h2
  have eF : (F.map (mkV true File_tfs)).isEmpty = false := by cases F with | nil => simp at h1 | cons _ _ => rfl
  have eM : (M.map (mkV true Mark_tfs)).isEmpty = false := by cases M with | nil => simp at h2 | cons _ _ => rfl
  have tF : ∀ L : List File_T, L.length = 6 → List.take 6 (L.map (mkV true File_tfs)) = L.map (mkV true File_tfs) := fun L hL => List.take_of_length_le (by simp [hL])
  have tM : ∀ L : List Mark_T, L.length = 3 → List.take 3 (L.map (mkV true Mark_tfs)) = L.map (mkV true Mark_tfs) := fun L hL => List.take_of_length_le (by simp [hL])
  have hb : (F.getD ((maxI f 0).tmod 6).toNat zF).2.2.length ≤ 24 := by rw [getD_at (by omega)]; exact h3 _ (List.getElem_mem _)
  unfold turn_r
  rw [bK_pos (all3F F), bK_neg eF, lF, bK_pos (by rw [fitFk (by decide)]; rfl), bK_pos (all4M M), bK_neg eM, lM, bK_pos (by rw [fitMk (by decide)]; rfl)]
  simp only [Nat.zero_add, List.nil_append, List.drop_zero, Nat.sub_zero, lF, lM]
  rw [bK_pos (by decide), bK_neg (by decide)]
  unfold tuQ tuK
  dsimp only
  have e6 : ((6 : Nat) : Int) = 6 := rfl
  rw [h1]
  simp only [e6]
  refine bK_iq (Q := fun z => z = _) (fun c => ?_) (fun c => ?_)
  · rw [if_pos c, bK_pos (by decide), bK_pos (by decide), tF F h1, tM M h2]; rfl
  rw [if_neg c]
  refine bK_iq (Q := fun z => z = _) (fun c => ?_) (fun c => ?_)
  · rw [if_pos c, bK_pos (decide_eq_true (by omega)), bK_pos (decide_eq_true (by omega)), tustF1 _ _ (by omega)]
    refine bK_tq (Q := fun z => z = _) (by simp [h1]) (bK_tq (Q := fun z => z = _) (by decide) ?_)
    rw [tF _ (by simp [h1]), tM M h2]; rfl
  rw [if_neg c]
  refine bK_iq (Q := fun z => z = _) (fun c => ?_) (fun c => ?_)
  · rw [if_pos c, bK_pos (decide_eq_true (by omega)), bK_pos (decide_eq_true (by omega)), tustF0 _ _ (by omega)]
    refine bK_tq (Q := fun z => z = _) (by simp [h1]) (bK_tq (Q := fun z => z = _) (by decide) ?_)
    rw [tF _ (by simp [h1]), tM M h2]; rfl
  rw [if_neg c]
  refine bK_iq (Q := fun z => z = _) (fun c => ?_) (fun c => ?_)
  · rw [if_pos c, bK_pos (decide_eq_true (by omega)), bK_pos (decide_eq_true (by omega)), tustF0 _ _ (by omega)]
    refine bK_tq (Q := fun z => z = _) (by simp [h1]) (bK_tq (Q := fun z => z = _) (by decide) ?_)
    rw [tF _ (by simp [h1]), tM M h2]; rfl
  rw [if_neg c]
  refine bK_iq (Q := fun z => z = _) (fun c => ?_) (fun c => ?_)
  · rw [if_pos c, bK_pos (decide_eq_true (by omega)), bK_pos (decide_eq_true (by omega)), tuldF2 _ _ (by omega)]
    refine bK_tq (Q := fun z => z = _) (decide_eq_true (by omega)) (bK_tq (Q := fun z => z = _) (decide_eq_true (by omega)) (bK_tq (Q := fun z => z = _) (decide_eq_true (by omega)) ?_))
    rw [tustF2 _ _ (by omega)]
    refine bK_tq (Q := fun z => z = _) (by simp [h1]) (bK_tq (Q := fun z => z = _) (by decide) ?_)
    rw [tF _ (by simp [h1]), tM M h2]; rfl
  rw [if_neg c]
  refine bK_iq (Q := fun z => z = _) (fun c => ?_) (fun c => ?_)
  · rw [if_pos c, bK_pos (decide_eq_true (by omega)), bK_pos (decide_eq_true (by omega)), tustM0 _ _ (by omega)]
    refine bK_tq (Q := fun z => z = _) (by simp [h2]) ?_
    rw [tF F h1, tM _ (by simp [h2])]; rfl
  rw [if_neg c]
  refine bK_iq (Q := fun z => z = _) (fun c => ?_) (fun c => ?_)
  · rw [if_pos c, bK_pos (decide_eq_true (by omega)), bK_pos (decide_eq_true (by omega)), tustM1 _ _ (by omega)]
    refine bK_tq (Q := fun z => z = _) (by simp [h2]) ?_
    rw [tF F h1, tM _ (by simp [h2])]; rfl
  rw [if_neg c]
  refine bK_iq (Q := fun z => z = _) (fun c => ?_) (fun c => ?_)
  · rw [if_pos c, bK_pos (decide_eq_true (by omega)), bK_pos (decide_eq_true (by omega)), bK_pos (decide_eq_true (by omega)), bK_pos (by decide), tM M h2, ← List.map_take]; rfl
  rw [if_neg c]
  refine bK_iq (Q := fun z => z = _) (fun c => ?_) (fun c => ?_)
  · rw [if_pos c, bK_pos (by decide), bK_pos (by rw [fitMk (by decide)]; rfl), bK_pos (by decide), tM M h2]
    refine bK_tq (Q := fun z => z = _) (by simp [h2]) ?_
    rw [tF F h1, List.take_of_length_le (by simp [h2])]
    have : M.map (mkV true Mark_tfs) ++ [AV.agg [.int .i64 0, .int .i64 0, .int .i64 0, .int .i64 0]] = (M ++ [zM]).map (mkV true Mark_tfs) := by rw [List.map_append]; rfl
    rw [this]; rfl
  rw [if_neg c, bK_pos (by decide), bK_pos (by decide), tF F h1, tM M h2]; rfl
theorem turnO : ∀ d : Tu turnS.fs, turnS.pre d → CallOk Try.prog 21 (turnS.args d) [] (turnS.ret d)
  | ((fx, F), (mx, M), ep, how, f, t), h => CallOk.unit (fnOk H3_ok 21) rfl fLoops_none (o := false) (by show 0 ≤ 1000; decide) ((turn_w fx F mx M ep how f t).trans (turnV fx F mx M ep how f t h.1 h.2.1 h.2.2))
noncomputable def J3 : PKs := J2.add 21 turnS.pk
theorem J3_ok : PKsOk Try.prog J3 := PKsOk.anyF J2_ok 21 turnS turnO

end Go.Proofs.Ytihgfpggdkhhaaa
