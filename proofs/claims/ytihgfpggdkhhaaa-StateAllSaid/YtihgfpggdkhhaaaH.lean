/- A part of the proof: contracts of functions. -/
import Derived.Test.YtihgfpggdkhhaaaG
import Derived.Test.YtihgfpggdkhhaaaAbAny

set_option linter.unusedVariables false
set_option linter.unusedSimpArgs false
set_option maxRecDepth 100000
namespace Go.Proofs.Ytihgfpggdkhhaaa
open Go Go.Ab
/-- May it last? -/
def mayQ (s : State_T) : Bool := decide (s.1.2.length = 6) && (decide (s.2.1.2.length = 3) && (decide (0 ≤ s.2.2) && (decide (s.2.2 ≤ 1073741824) && (mayFsQ s.1.2 && !decide (0 ≤ mmiF (s.2.1, ()))))))
noncomputable def mayPS : FS := ⟨mayP_sh, mayP_fs, mayP_rsh, mayP_rfs, fun s => s.1.2.length ≤ 100000 ∧ s.2.1.2.length ≤ 100000 ∧ ∀ f ∈ s.1.2, f.1.length ≤ 1000, fun s => mayQ s, none⟩
theorem mayPV (fx : Bool) (F : List File_T) (mx : Bool) (M : List Mark_T) (ep : Int) (h1 : F.length ≤ 100000) (h2 : M.length ≤ 100000) (h3 : ∀ f ∈ F, f.1.length ≤ 1000) : mayP_r fx F mx M ep = some (mayPS.out (mayQ ((fx, F), (mx, M), ep))) := by
  have e : mayQ ((fx, F), (mx, M), ep) = (decide (F.length = 6) && (decide (M.length = 3) && (decide (0 ≤ ep) && (decide (ep ≤ 1073741824) && (mayFsQ F && !decide (0 ≤ mmiF ((mx, M), ()))))))) := rfl
  rw [e]
  unfold mayP_r
  refine bK_nq (Q := fun z => z = _) (fun c1 => ?_) (fun c1 => ?_)
  · rw [decide_eq_false (fun h => c1 (by rw [List.length_map, h]; rfl))]; rfl
  rw [List.length_map] at c1
  rw [decide_eq_true (show F.length = 6 by omega), Bool.true_and]
  refine bK_nq (Q := fun z => z = _) (fun c2 => ?_) (fun c2 => ?_)
  · rw [decide_eq_false (fun h => c2 (by rw [List.length_map, h]; rfl))]; rfl
  rw [List.length_map] at c2
  rw [decide_eq_true (show M.length = 3 by omega), Bool.true_and]
  refine bK_iq (Q := fun z => z = _) (fun c3 => ?_) (fun c3 => ?_)
  · rw [decide_eq_true c3, Bool.true_and]
    refine bK_nq (Q := fun z => z = _) (fun c4 => ?_) (fun c4 => ?_)
    · rw [decide_eq_false c4]; rfl
    rw [decide_eq_true c4, Bool.true_and]
    refine oK_lpq (Q := fun z => z = _) mpH_inj ((fx, F), (mx, M), ep) ⟨h1, h3⟩ ?_
    dsimp only
    refine bK_bq (Q := fun z => z = _) (fun c5 => ?_) (fun c5 => ?_)
    · refine oK_pkq (Q := fun z => z = _) mmXA_inj ((mx, M), ()) h2 ?_
      rw [c5]; rfl
    · rw [c5]; rfl
  · rw [decide_eq_false c3]; rfl
theorem mayPO : ∀ d : Tu mayPS.fs, mayPS.pre d → CallOk Try.prog 24 (mayPS.args d) [] (mayPS.ret d)
  | ((fx, F), (mx, M), ep), h => CallOk.unit (fnOk G3_ok 21) rfl mpLP_ok.loops (o := false) (by show 0 ≤ 1000; decide) ((mayP_w fx F mx M ep).trans (mayPV fx F mx M ep h.1 h.2.1 h.2.2))
theorem mayN_le {s : List UInt8} (h : mayNF s = true) : s.length ≤ 8 := by
  unfold mayNF at h
  simp only [Bool.and_eq_true, decide_eq_true_eq] at h
  exact h.2.2
theorem name_le {f : File_T} (h : fileOk f) : f.1.length ≤ 8 := by
  rcases h with ⟨h, _⟩ | ⟨h, _⟩
  · rw [h]; decide
  · exact mayN_le h
theorem fOk_of {f : File_T} (h : fileOk f) : fOk f = true := by
  unfold fOk
  rcases h with ⟨h, hz⟩ | ⟨h, h2, h3, h4⟩
  · rw [if_pos h]; exact decide_eq_true hz
  · rw [if_neg (mayN_ne h), h, Bool.true_and]; exact decide_eq_true ⟨h2, h3, h4⟩
theorem fNew_of {l : List File_T} (h : uniq l) {i : Nat} (hi : i < l.length) : fNew l i = true := by
  unfold fNew
  by_cases c : (l.getD i zF).1 = []
  · rw [decide_eq_true c]; rfl
  · rw [decide_eq_false c, Bool.false_or]
    refine decide_eq_true (firstN_none (fun a ha => ?_))
    refine decide_eq_false (fun he => ?_)
    obtain ⟨j, hj, hja⟩ := List.mem_iff_getElem.1 ha
    have hj' : j < i := by rw [List.length_take] at hj; omega
    rw [List.getElem_take] at hja
    have := h i j hi (by omega) c (by rw [getD_at (show j < l.length by omega), hja]; exact he.symm)
    omega
theorem mayFrom_of {l : List File_T} (h : FsInv l) : ∀ (j i : Nat), i + j = l.length → mayFrom l j i = true
  | 0, _, _ => rfl
  | j + 1, i, hi => by
    unfold mayFrom
    have hi' : i < l.length := by omega
    rw [mayFrom_of h j (i + 1) (by omega), Bool.and_true]
    unfold fAt
    rw [fOk_of (h.2.1 _ (by rw [getD_at hi']; exact List.getElem_mem hi')), fNew_of h.2.2 hi']; rfl
theorem mayM_of {B : Int} (hB : B ≤ 1073741824) {m : Mark_T} (h : markOk B m) : mayM m := ⟨h.1, by have := h.2.1; omega, h.2.2.2.2.1, h.2.2.2.2.2.1, h.2.2.2.2.2.2.1, h.2.2.2.2.2.2.2, h.2.2.1, h.2.2.2.1⟩
theorem mayQ_of {s : State_T} (h1 : FsInv s.1.2) {B : Int} (hB : B ≤ 1073741824) (h2 : MsInv B s.2.1.2) (h3 : 0 ≤ s.2.2) (h4 : s.2.2 ≤ 1073741824) : mayQ s = true := by
  unfold mayQ
  rw [decide_eq_true h1.1, decide_eq_true h2.1, decide_eq_true h3, decide_eq_true h4]
  have e1 : mayFsQ s.1.2 = true := mayFrom_of h1 _ 0 (by omega)
  have e2 : mmiF (s.2.1, ()) = -1 := firstN_none fun m hm => by
    show (!decide (mayM m)) = false
    rw [decide_eq_true (mayM_of hB (h2.2 m hm))]; rfl
  rw [e1, e2]; rfl
theorem mayPre {s : State_T} (h1 : FsInv s.1.2) {B : Int} (h2 : MsInv B s.2.1.2) : mayPS.pre s := ⟨by rw [h1.1]; decide, by rw [h2.1]; decide, fun f hf => by have := name_le (h1.2.1 f hf); omega⟩
noncomputable def H1 : PKs := Q4.add 22 bootPS.pk
theorem H1_ok : PKsOk Try.prog H1 := PKsOk.anyF Q4_ok 22 bootPS bootPO
noncomputable def H2 : PKs := H1.add 24 mayPS.pk
theorem H2_ok : PKsOk Try.prog H2 := PKsOk.anyF H1_ok 24 mayPS mayPO
noncomputable def H3 : PKs := H2.add 26 samePS.pk
theorem H3_ok : PKsOk Try.prog H3 := PKsOk.anyF H2_ok 26 samePS samePO
noncomputable def bt_h (x : Bool) (l : List Int) (n : Int) : Option (Ex × St) := headK Try.prog cfg H3 LP0 8 0 [.slc x (l.map (mkV false [.fi .u8])), .int .u8 n] []
noncomputable def bt_h_r (x : Bool) (l : List Int) (n : Int) : Option (Ex × St) :=
  oK (begunS.dec [] []) fun (d0 : PUnit) =>
  bK (decide (60 < (↑(List.map (mkV false [Lf.fi IntKind.u8]) l).length : Int))) (some (Ex.ret, { fr := [(4, AV.bool true), (13, AV.bool true), (12, AV.int IntKind.i64 (↑(List.map (mkV false [Lf.fi IntKind.u8]) l).length : Int)), (11, AV.slc x (List.map (mkV false [Lf.fi IntKind.u8]) l)), (10, AV.bool false), (9, AV.bool true), (4, AV.bool false), (0, AV.slc x (List.map (mkV false [Lf.fi IntKind.u8]) l)), (1, AV.int IntKind.u8 n)], bs := [], df := [] }))
    (oK (statePS.dec [AV.ptr 1000000 0 0 0, AV.int IntKind.i64 25] [{ v := 0, k := BK.box, fz := false, sz := 0, es := [AV.slc x (List.map (mkV false [Lf.fi IntKind.u8]) l), AV.int IntKind.i64 0] }]) fun (d1 : ((Bool × List Int) × Int) × Int) => some (Ex.exit 999999, { fr := [(1, AV.int IntKind.u8 n), (5, AV.ptr 80 0 0 0), (6, AV.ptr 96 0 0 0), (7, AV.int IntKind.i64 0)], bs := [(80, { v := 0, k := BK.box, fz := false, sz := 0, es := [AV.slc (stR (d1.fst, d1.snd)).snd.fst.fst (List.map (mkV true File_tfs) (stR (d1.fst, d1.snd)).snd.fst.snd), AV.slc (stR (d1.fst, d1.snd)).snd.snd.fst.fst (List.map (mkV true Mark_tfs) (stR (d1.fst, d1.snd)).snd.snd.fst.snd), AV.int IntKind.i64 (stR (d1.fst, d1.snd)).snd.snd.snd] }), (96, { v := 0, k := BK.box, fz := false, sz := 0, es := [AV.slc (stR (d1.fst, d1.snd)).snd.fst.fst (List.map (mkV true File_tfs) (stR (d1.fst, d1.snd)).snd.fst.snd), AV.slc (stR (d1.fst, d1.snd)).snd.snd.fst.fst (List.map (mkV true Mark_tfs) (stR (d1.fst, d1.snd)).snd.snd.fst.snd), AV.int IntKind.i64 (stR (d1.fst, d1.snd)).snd.snd.snd] })], df := [] }))
theorem bt_h_w (x : Bool) (l : List Int) (n : Int) : bt_h x l n = bt_h_r x l n := by kernel_rfl

end Go.Proofs.Ytihgfpggdkhhaaa
