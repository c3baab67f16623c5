/- A part of the proof: contracts of functions. -/
import Derived.Test.YtihgfpggdkhhaaaJ
import Derived.Test.YtihgfpggdkhhaaaAbAny

set_option linter.unusedVariables false
set_option linter.unusedSimpArgs false
set_option maxRecDepth 100000
namespace Go.Proofs.Ytihgfpggdkhhaaa
open Go Go.Ab
def msH (s : State_T) (i : Int) : St := { fr := [(1, .ptr 16 0 0 0), (7, .int .i64 i)], bs := [(16, boxB (Tu.mk State_tfs s))], df := [] }
noncomputable def ms_s (s : State_T) (i : Int) : Option (St ⊕ (Ex × St)) := stepK Try.prog cfg H3 mrLP 25 2 (msH s i)
noncomputable def ms_s_r (s : State_T) (i : Int) : Option (St ⊕ Ex × St) :=
  bK (decide (i < (↑(List.map (mkV true Mark_tfs) s.snd.fst.snd).length : Int))) (oK (elemAt true Mark_tfs (List.map (mkV true Mark_tfs) s.snd.fst.snd) i) fun (d0 : Int × Int × Int × Int) => bK (decide (0 ≤ d0.fst)) (bK (!decide (d0.fst ≤ 1073741824)) (some (Sum.inr (Ex.ret, { fr := [(2, AV.bool false)], bs := [], df := [] }))) (bK (decide (d0.snd.fst < 0)) (some (Sum.inr (Ex.ret, { fr := [(2, AV.bool false)], bs := [], df := [] }))) (bK (decide (3 < d0.snd.fst)) (some (Sum.inr (Ex.ret, { fr := [(2, AV.bool false)], bs := [], df := [] }))) (bK (decide (d0.snd.snd.fst < 0)) (some (Sum.inr (Ex.ret, { fr := [(2, AV.bool false)], bs := [], df := [] }))) (bK (decide (6 < d0.snd.snd.fst)) (some (Sum.inr (Ex.ret, { fr := [(2, AV.bool false)], bs := [], df := [] }))) (bK (decide (0 ≤ d0.snd.snd.snd)) (bK (!decide (d0.snd.snd.snd ≤ 1073741824)) (some (Sum.inr (Ex.ret, { fr := [(2, AV.bool false)], bs := [], df := [] }))) (some (Sum.inl { fr := [(1, AV.ptr 16 0 0 0), (7, AV.int IntKind.i64 (IntKind.i64.wrap (i + 1)))], bs := [(16, { v := 0, k := BK.box, fz := false, sz := 0, es := [AV.slc s.fst.fst (List.map (mkV true File_tfs) s.fst.snd), AV.slc s.snd.fst.fst (List.map (mkV true Mark_tfs) s.snd.fst.snd), AV.int IntKind.i64 s.snd.snd] })], df := [] }))) (some (Sum.inr (Ex.ret, { fr := [(2, AV.bool false)], bs := [], df := [] }))))))))) (some (Sum.inr (Ex.ret, { fr := [(2, AV.bool false)], bs := [], df := [] })))) (some (Sum.inr (Ex.exit 2, { fr := [], bs := [], df := [] })))
theorem ms_s_w (s : State_T) (i : Int) : ms_s s i = ms_s_r s i := by kernel_rfl

def msN : Ex × St := (.ret, { fr := [(2, .bool false)], bs := [], df := [] })
def msE : Ex × St := (.exit 2, { fr := [], bs := [], df := [] })
def msY (k : Int) : Ex × St := if 0 ≤ k then msN else msE
theorem ms_step (s : State_T) (i : Nat) (hi : i < s.2.1.2.length) (hl : s.2.1.2.length ≤ 100000) : ms_s s i = if mayM s.2.1.2[i] then some (.inl (msH s ((i + 1 : Nat) : Int))) else some (.inr msN) := by
  refine (ms_s_w s i).trans ?_
  obtain ⟨fs, ⟨mx, l⟩, ep⟩ := s
  simp only at hi hl ⊢
  have e1 : IntKind.i64.wrap ((i : Int) + 1) = ((i + 1 : Nat) : Int) := by rw [w64 (by omega) (by omega)]; omega
  unfold ms_s_r
  rw [e1]
  refine bK_tq (Q := fun z => z = _) (by simp; omega) ?_
  refine oK_atq (Q := fun z => z = _) (fs := Mark_tfs) (0, 0, 0, 0) (by omega) (by simpa using hi) ?_
  rw [Int.toNat_natCast, getD_at hi]
  have no : ¬ mayM l[i] → ∀ z : Option (St ⊕ (Ex × St)), z = some (.inr msN) → z = if mayM l[i] then some (.inl (msH (fs, (mx, l), ep) ((i + 1 : Nat) : Int))) else some (.inr msN) := fun hn z hz => by rw [hz, if_neg hn]
  refine bK_iq (Q := fun z => z = _) (fun c1 => ?_) (fun c1 => no (fun h => c1 h.1) _ rfl)
  refine bK_nq (Q := fun z => z = _) (fun c2 => no (fun h => c2 h.2.1) _ rfl) (fun c2 => ?_)
  refine bK_iq (Q := fun z => z = _) (fun c3 => no (fun h => by have := h.2.2.2.2.2.2.1; omega) _ rfl) (fun c3 => ?_)
  refine bK_iq (Q := fun z => z = _) (fun c4 => no (fun h => by have := h.2.2.2.2.2.2.2; omega) _ rfl) (fun c4 => ?_)
  refine bK_iq (Q := fun z => z = _) (fun c5 => no (fun h => by have := h.2.2.1; omega) _ rfl) (fun c5 => ?_)
  refine bK_iq (Q := fun z => z = _) (fun c6 => no (fun h => by have := h.2.2.2.1; omega) _ rfl) (fun c6 => ?_)
  refine bK_iq (Q := fun z => z = _) (fun c7 => ?_) (fun c7 => no (fun h => c7 h.2.2.2.2.1) _ rfl)
  refine bK_nq (Q := fun z => z = _) (fun c8 => no (fun h => c8 h.2.2.2.2.2.1) _ rfl) (fun c8 => ?_)
  rw [if_pos (show mayM l[i] from ⟨c1, c2, by omega, by omega, c7, c8, by omega, by omega⟩)]
  rfl
theorem ms_run (s : State_T) (hl : s.2.1.2.length ≤ 100000) : ∀ (j i : Nat), i + j = s.2.1.2.length → ∀ (m : Nat), j < m → Runs' Try.prog cfg H3 25 2 m (msH s i) (msY (firstN (fun w => mmQ (w, ())) (s.2.1.2.drop i) i))
  | 0, i, hi, m + 1, hm => by
    rw [List.drop_of_length_le (by omega)]
    refine Runs'.done (lp := mrLP) mrLP_ok mra2 ((ms_s_w s i).trans ?_)
    unfold ms_s_r
    rw [bK_neg (by simp; omega)]
    rfl
  | j + 1, i, hi, m + 1, hm => by
    have hi' : i < s.2.1.2.length := by omega
    have hs := ms_step s i hi' hl
    have e : s.2.1.2.drop i = s.2.1.2[i] :: s.2.1.2.drop (i + 1) := List.drop_eq_getElem_cons hi'
    have q : mmQ (s.2.1.2[i], ()) = !decide (mayM s.2.1.2[i]) := rfl
    rw [e]
    unfold firstN
    by_cases h : mayM s.2.1.2[i]
    · rw [if_pos h] at hs
      rw [if_neg (by rw [q, decide_eq_true h]; simp)]
      exact Runs'.step (lp := mrLP) mrLP_ok mra2 hs (ms_run s hl j (i + 1) (by omega) m (by omega))
    · rw [if_neg h] at hs
      rw [if_pos (by rw [q, decide_eq_false h]; rfl), show msY (i : Int) = msN from if_pos (by omega)]
      exact Runs'.done (lp := mrLP) mrLP_ok mra2 hs
def msHd (s : State_T) : St := msH s 0
noncomputable def msL : LP := LP.of msHd (fun s => s.2.1.2.length ≤ 100000) fun s => .ite (decide (0 ≤ mmiF (s.2.1, ()))) (.leaf msN) (.leaf msE)
noncomputable def msLP : LPs := LPs.add mrLP 25 2 msL
theorem msLP_ok : LPok Try.prog cfg H3 msLP 25 := LPok.addH mrLP_ok mro fun s h => by
  have h' : s.2.1.2.length ≤ 100000 := h
  have := ms_run s h' s.2.1.2.length 0 (by omega) rounds (by simp only [rounds]; omega)
  rw [List.drop_zero] at this
  have e : mmiF (s.2.1, ()) = firstN (fun w => mmQ (w, ())) s.2.1.2 0 := rfl
  simp only [Alt.val, e]
  by_cases c : 0 ≤ firstN (fun w => mmQ (w, ())) s.2.1.2 0
  · rw [decide_eq_true c]
    rw [show msY (firstN (fun w => mmQ (w, ())) s.2.1.2 ((0 : Nat) : Int)) = msN from if_pos c] at this
    exact this
  · rw [decide_eq_false c]
    rw [show msY (firstN (fun w => mmQ (w, ())) s.2.1.2 ((0 : Nat) : Int)) = msE from if_neg c] at this
    exact this
theorem msHd_inj (s t : State_T) (h : msHd s = msHd t) : s = t := by
  simp only [msHd, msH, boxB, St.mk.injEq, List.cons.injEq, Prod.mk.injEq, Blk.mk.injEq, and_true, true_and] at h
  exact mk_inj (fs := State_tfs) rfl h
abbrev myR_id : Nat := 25
abbrev myR_sh : Shp := [some 3]
abbrev myR_fs : List Lf := [.fl true File_tfs, .fl true Mark_tfs, .fi .i64]
abbrev myR_rsh : Shp := [none]
abbrev myR_rfs : List Lf := [.fb]
noncomputable def myR_r (s_Files_x : Bool) (s_Files : List File_T) (s_Marks_x : Bool) (s_Marks : List Mark_T) (s_Epoch : Int) : Option Ret :=
  bK (!decide ((↑(List.map (mkV true File_tfs) s_Files).length : Int) = 6)) (some { pan := false, res := AV.bool false, out := [], new := [] })
  (bK (!decide ((↑(List.map (mkV true Mark_tfs) s_Marks).length : Int) = 3)) (some { pan := false, res := AV.bool false, out := [], new := [] }) (bK (decide (0 ≤ s_Epoch)) (bK (!decide (s_Epoch ≤ 1073741824)) (some { pan := false, res := AV.bool false, out := [], new := [] }) (oK (mrL.dec { fr := [(1, AV.ptr 16 0 0 0), (3, AV.int IntKind.i64 0)], bs := [(16, { v := 0, k := BK.box, fz := false, sz := 0, es := [AV.slc s_Files_x (List.map (mkV true File_tfs) s_Files), AV.slc s_Marks_x (List.map (mkV true Mark_tfs) s_Marks), AV.int IntKind.i64 s_Epoch] })], df := [] }) fun (d0 : (Bool × List (List UInt8 × Int × List UInt8)) × (Bool × List (Int × Int × Int × Int)) × Int) => bK (mayFsQ d0.fst.snd) (oK (msL.dec { fr := [(1, AV.ptr 16 0 0 0), (7, AV.int IntKind.i64 0)], bs := [(16, { v := 0, k := BK.box, fz := false, sz := 0, es := [AV.slc d0.fst.fst (List.map (mkV true File_tfs) d0.fst.snd), AV.slc d0.snd.fst.fst (List.map (mkV true Mark_tfs) d0.snd.fst.snd), AV.int IntKind.i64 d0.snd.snd] })], df := [] }) fun (d1 : (Bool × List (List UInt8 × Int × List UInt8)) × (Bool × List (Int × Int × Int × Int)) × Int) => bK (decide (0 ≤ mmiF (d1.snd.fst, ()))) (some { pan := false, res := AV.bool false, out := [], new := [] }) (some { pan := false, res := AV.bool true, out := [], new := [] })) (some { pan := false, res := AV.bool false, out := [], new := [] }))) (some { pan := false, res := AV.bool false, out := [], new := [] })))
theorem myR_w (s_Files_x : Bool) (s_Files : List File_T) (s_Marks_x : Bool) (s_Marks : List Mark_T) (s_Epoch : Int) : unitQ Try.prog cfg H3 msLP false 25 (groupA myR_sh (Tu.mk myR_fs ((s_Files_x, s_Files), (s_Marks_x, s_Marks), s_Epoch))) [] = myR_r s_Files_x s_Files s_Marks_x s_Marks s_Epoch := by kernel_rfl

noncomputable def myRS : FS := ⟨myR_sh, myR_fs, myR_rsh, myR_rfs, fun s => s.1.2.length ≤ 100000 ∧ s.2.1.2.length ≤ 100000 ∧ ∀ f ∈ s.1.2, f.1.length ≤ 1000, fun s => mayQ s, none⟩
theorem myRV (fx : Bool) (F : List File_T) (mx : Bool) (M : List Mark_T) (ep : Int) (h1 : F.length ≤ 100000) (h2 : M.length ≤ 100000) (h3 : ∀ f ∈ F, f.1.length ≤ 1000) : myR_r fx F mx M ep = some (myRS.out (mayQ ((fx, F), (mx, M), ep))) := by
  have e : mayQ ((fx, F), (mx, M), ep) = (decide (F.length = 6) && (decide (M.length = 3) && (decide (0 ≤ ep) && (decide (ep ≤ 1073741824) && (mayFsQ F && !decide (0 ≤ mmiF ((mx, M), ()))))))) := rfl
  rw [e]
  unfold myR_r
  refine bK_nq (Q := fun z => z = _) (fun c1 => ?_) (fun c1 => ?_)
  · rw [decide_eq_false (fun h => c1 (by rw [List.length_map, h]; rfl))]; rfl
  rw [List.length_map] at c1
  rw [decide_eq_true (show F.length = 6 by omega), Bool.true_and]
  refine bK_nq (Q := fun z => z = _) (fun c2 => ?_) (fun c2 => ?_)
  · rw [decide_eq_false (fun h => c2 (by rw [List.length_map, h]; rfl))]; rfl
  rw [List.length_map] at c2
  rw [decide_eq_true (show M.length = 3 by omega), Bool.true_and]
  refine bK_iq (Q := fun z => z = _) (fun c3 => ?_) (fun c3 => ?_)
  · rw [decide_eq_true c3, Bool.true_and]
    refine bK_nq (Q := fun z => z = _) (fun c4 => ?_) (fun c4 => ?_)
    · rw [decide_eq_false c4]; rfl
    rw [decide_eq_true c4, Bool.true_and]
    refine oK_lpq (Q := fun z => z = _) mrHd_inj ((fx, F), (mx, M), ep) ⟨h1, h3⟩ ?_
    dsimp only
    refine bK_bq (Q := fun z => z = _) (fun c5 => ?_) (fun c5 => ?_)
    · refine oK_lpq (Q := fun z => z = _) msHd_inj ((fx, F), (mx, M), ep) h2 ?_
      dsimp only
      rw [c5, Bool.true_and]
      cases decide (0 ≤ mmiF ((mx, M), ())) <;> rfl
    · rw [c5]; rfl
  · rw [decide_eq_false c3]; rfl
theorem myRO : ∀ d : Tu myRS.fs, myRS.pre d → CallOk Try.prog 25 (myRS.args d) [] (myRS.ret d)
  | ((fx, F), (mx, M), ep), h => CallOk.unit (fnOk H3_ok 21) rfl msLP_ok.loops (o := false) (by show 0 ≤ 1000; decide) ((myR_w fx F mx M ep).trans (myRV fx F mx M ep h.1 h.2.1 h.2.2))
noncomputable def J1 : PKs := H3.add 25 myRS.pk
theorem J1_ok : PKsOk Try.prog J1 := PKsOk.anyF H3_ok 25 myRS myRO
def ssN : Ex × St := (.ret, { fr := [(4, .bool false)], bs := [], df := [] })
def ssE : Ex × St := (.exit 0, { fr := [], bs := [], df := [] })
theorem ssl : (loopsOf 0 (codeOf Try.prog 18)).map (·.1) = [0] := by kernel_rfl
theorem sso : OneLoops Try.prog 18 := by unfold OneLoops; rw [ssl]; decide
theorem ssa : At 0 (codeOf Try.prog 18) 0 (.loop (bodyAt Try.prog 18 0)) := at_body sso (by rw [ssl]; decide)
theorem ss_run (s t : State_T) (he : s.1.2.length = t.1.2.length) (hl : s.1.2.length ≤ 100000) : ∀ (j i : Nat), i + j = s.1.2.length → ∀ (m : Nat), j < m → Runs' Try.prog cfg E3 18 0 m (ssh s t i) (if s.1.2.drop i = t.1.2.drop i then ssE else ssN)
  | 0, i, hi, m + 1, hm => by
    rw [List.drop_of_length_le (by omega), List.drop_of_length_le (by omega), if_pos rfl]
    refine Runs'.done (lp := LP0) LPok.none ssa ((ss_s_w s t i).trans ?_)
    unfold ss_s_r
    rw [bK_neg (by simp; omega)]
    rfl
  | j + 1, i, hi, m + 1, hm => by
    have hi' : i < s.1.2.length := by omega
    have hi2 : i < t.1.2.length := by omega
    have e1 : s.1.2.drop i = s.1.2[i] :: s.1.2.drop (i + 1) := List.drop_eq_getElem_cons hi'
    have e2 : t.1.2.drop i = t.1.2[i] :: t.1.2.drop (i + 1) := List.drop_eq_getElem_cons hi2
    have e3 : IntKind.i64.wrap ((i : Int) + 1) = ((i + 1 : Nat) : Int) := by rw [w64 (by omega) (by omega)]; omega
    have hs : ss_s s t i = if s.1.2[i] = t.1.2[i] then some (.inl (ssh s t ((i + 1 : Nat) : Int))) else some (.inr ssN) := by
      refine (ss_s_w s t i).trans ?_
      unfold ss_s_r
      rw [e3]
      refine bK_tq (Q := fun z => z = _) (by simp; omega) ?_
      refine oK_atq (Q := fun z => z = _) (fs := File_tfs) zF (by omega) (by rw [Int.toNat_natCast]; exact hi') ?_
      refine oK_atq (Q := fun z => z = _) (fs := File_tfs) zF (by omega) (by rw [Int.toNat_natCast]; exact hi2) ?_
      rw [Int.toNat_natCast, getD_at hi', getD_at hi2]
      by_cases c : s.1.2[i] = t.1.2[i]
      · rw [if_pos c, c, bK_neg (by simp)]; rfl
      · rw [if_neg c, bK_pos]
        · rfl
        · simp only [Bool.not_eq_true', Bool.and_eq_false_iff, decide_eq_false_iff_not, Bool.and_true]
          by_cases c1 : s.1.2[i].1 = t.1.2[i].1
          · by_cases c2 : s.1.2[i].2.1 = t.1.2[i].2.1
            · exact .inr (.inr fun c3 => c (Prod.ext c1 (Prod.ext c2 c3)))
            · exact .inr (.inl c2)
          · exact .inl c1
    rw [e1, e2]
    by_cases c : s.1.2[i] = t.1.2[i]
    · rw [if_pos c] at hs
      have := Runs'.step (lp := LP0) LPok.none ssa hs (ss_run s t he hl j (i + 1) (by omega) m (by omega))
      by_cases c2 : s.1.2.drop (i + 1) = t.1.2.drop (i + 1)
      · rw [if_pos c2] at this
        rw [if_pos (by rw [c, c2])]; exact this
      · rw [if_neg c2] at this
        rw [if_neg (fun h => c2 (List.cons.inj h).2)]; exact this
    · rw [if_neg c] at hs
      rw [if_neg (fun h => c (List.cons.inj h).1)]
      exact Runs'.done (lp := LP0) LPok.none ssa hs
/-- Alike. -/
def fsEqQ (a b : List File_T) : Bool := decide (a = b)
def ssHd (d : State_T × State_T) : St := ssh d.1 d.2 0
noncomputable def ssL : LP := LP.of ssHd (fun d => d.1.1.2.length = d.2.1.2.length ∧ d.1.1.2.length ≤ 100000) fun d => .ite (fsEqQ d.1.1.2 d.2.1.2) (.leaf ssE) (.leaf ssN)
noncomputable def ssLP : LPs := LPs.add LP0 18 0 ssL
theorem ssLP_ok : LPok Try.prog cfg E3 ssLP 18 := LPok.addH LPok.none sso fun d h => by
  have := ss_run d.1 d.2 h.1 h.2 d.1.1.2.length 0 (by omega) rounds (by have := h.2; simp only [rounds]; omega)
  rw [List.drop_zero, List.drop_zero] at this
  have e : fsEqQ d.1.1.2 d.2.1.2 = decide (d.1.1.2 = d.2.1.2) := rfl
  simp only [Alt.val, e]
  by_cases c : d.1.1.2 = d.2.1.2
  · rw [if_pos c] at this; rw [decide_eq_true c]; exact this
  · rw [if_neg c] at this; rw [decide_eq_false c]; exact this
theorem ssHd_inj (d d' : State_T × State_T) (h : ssHd d = ssHd d') : d = d' := by
  obtain ⟨s, t⟩ := d
  obtain ⟨s', t'⟩ := d'
  simp only [ssHd, ssh, boxB, St.mk.injEq, List.cons.injEq, Prod.mk.injEq, Blk.mk.injEq, and_true, true_and] at h
  rw [mk_inj (fs := State_tfs) rfl h.1, mk_inj (fs := State_tfs) rfl h.2]
abbrev ssP_id : Nat := 18
abbrev ssP_sh : Shp := [some 3, some 3]
abbrev ssP_fs : List Lf := [.fl true File_tfs, .fl true Mark_tfs, .fi .i64, .fl true File_tfs, .fl true Mark_tfs, .fi .i64]
abbrev ssP_rsh : Shp := [none]
abbrev ssP_rfs : List Lf := [.fb]
noncomputable def ssP_r (a_Files_x : Bool) (a_Files : List File_T) (a_Marks_x : Bool) (a_Marks : List Mark_T) (a_Epoch : Int) (b_Files_x : Bool) (b_Files : List File_T) (b_Marks_x : Bool) (b_Marks : List Mark_T) (b_Epoch : Int) : Option Ret :=
  bK (!decide ((↑(List.map (mkV true File_tfs) a_Files).length : Int) = (↑(List.map (mkV true File_tfs) b_Files).length : Int))) (some { pan := false, res := AV.bool false, out := [], new := [] })
  (oK (skS.dec [AV.slc a_Marks_x (List.map (mkV true Mark_tfs) a_Marks), AV.slc b_Marks_x (List.map (mkV true Mark_tfs) b_Marks)] []) fun (d0 : (Bool × List (Int × Int × Int × Int)) × Bool × List (Int × Int × Int × Int)) => bK (!skQ d0.fst.snd d0.snd.snd) (some { pan := false, res := AV.bool false, out := [], new := [] }) (bK (!decide (a_Epoch = b_Epoch)) (some { pan := false, res := AV.bool false, out := [], new := [] }) (oK (ssL.dec { fr := [(2, AV.ptr 32 0 0 0), (3, AV.ptr 48 0 0 0), (5, AV.int IntKind.i64 0)], bs := [(32, { v := 0, k := BK.box, fz := false, sz := 0, es := [AV.slc a_Files_x (List.map (mkV true File_tfs) a_Files), AV.slc a_Marks_x (List.map (mkV true Mark_tfs) a_Marks), AV.int IntKind.i64 a_Epoch] }), (48, { v := 0, k := BK.box, fz := false, sz := 0, es := [AV.slc b_Files_x (List.map (mkV true File_tfs) b_Files), AV.slc b_Marks_x (List.map (mkV true Mark_tfs) b_Marks), AV.int IntKind.i64 b_Epoch] })], df := [] }) fun (d1 : ((Bool × List (List UInt8 × Int × List UInt8)) × (Bool × List (Int × Int × Int × Int)) × Int) × (Bool × List (List UInt8 × Int × List UInt8)) × (Bool × List (Int × Int × Int × Int)) × Int) => bK (fsEqQ d1.fst.fst.snd d1.snd.fst.snd) (some { pan := false, res := AV.bool true, out := [], new := [] }) (some { pan := false, res := AV.bool false, out := [], new := [] }))))
theorem ssP_w (a_Files_x : Bool) (a_Files : List File_T) (a_Marks_x : Bool) (a_Marks : List Mark_T) (a_Epoch : Int) (b_Files_x : Bool) (b_Files : List File_T) (b_Marks_x : Bool) (b_Marks : List Mark_T) (b_Epoch : Int) : unitQ Try.prog cfg E3 ssLP false 18 (groupA ssP_sh (Tu.mk ssP_fs ((a_Files_x, a_Files), (a_Marks_x, a_Marks), a_Epoch, (b_Files_x, b_Files), (b_Marks_x, b_Marks), b_Epoch))) [] = ssP_r a_Files_x a_Files a_Marks_x a_Marks a_Epoch b_Files_x b_Files b_Marks_x b_Marks b_Epoch := by kernel_rfl

end Go.Proofs.Ytihgfpggdkhhaaa
