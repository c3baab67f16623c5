/- A part of the proof: contracts of functions. -/
import Derived.Test.YtmjgiplgghmapaaH
import Derived.Test.YtmjgiplgghmapaaAbAny

set_option linter.unusedVariables false
set_option linter.unusedSimpArgs false
set_option maxRecDepth 100000
namespace Go.Proofs.Ytmjgiplgghmapaa
open Go Go.Ab
set_option maxHeartbeats 8000000
abbrev I1_T : Type := Int
abbrev I1_tfs : List Lf := [.fi .i64]
def eqh (x : Bool) (a : List I1_T) (y : Bool) (b : List I1_T) (i : Int) : St := { fr := [(0, .slc x (a.map (mkV false I1_tfs))), (1, .slc y (b.map (mkV false I1_tfs))), (12, .int .i64 ((a.length : Nat) : Int)), (13, .int .i64 i)], bs := [], df := [] }
noncomputable def eqs (x : Bool) (a : List I1_T) (y : Bool) (b : List I1_T) (i : Int) : Option (St ⊕ (Ex × St)) := stepK Try.prog cfg PK9 LP0 38 0 (eqh x a y b i)
noncomputable def eqs_r (x : Bool) (a : List I1_T) (y : Bool) (b : List I1_T) (i : Int) : Option (St ⊕ Ex × St) :=
  bK (decide (i < (↑a.length : Int))) (oK (elemAt false I1_tfs (List.map (mkV false I1_tfs) a) i) fun (d0 : Int) => oK (elemAt false I1_tfs (List.map (mkV false I1_tfs) b) i) fun (d1 : Int) => bK (!decide (d0 = d1)) (some (Sum.inr (Ex.ret, { fr := [(4, AV.bool false)], bs := [], df := [] }))) (some (Sum.inl { fr := [(0, AV.slc x (List.map (mkV false I1_tfs) a)), (1, AV.slc y (List.map (mkV false I1_tfs) b)), (12, AV.int IntKind.i64 (↑a.length : Int)), (13, AV.int IntKind.i64 (IntKind.i64.wrap (i + 1)))], bs := [], df := [] }))) (some (Sum.inr (Ex.exit 0, { fr := [], bs := [], df := [] })))
theorem eqs_w (x : Bool) (a : List I1_T) (y : Bool) (b : List I1_T) (i : Int) : eqs x a y b i = eqs_r x a y b i := by kernel_rfl

def eqe : St := { fr := [], bs := [], df := [] }
def eqn : St := { fr := [(4, .bool false)], bs := [], df := [] }
theorem eqlo : (loopsOf 0 (codeOf Try.prog 38)).map (·.1) = [0] := by kernel_rfl
theorem eqon : OneLoops Try.prog 38 := by unfold OneLoops; rw [eqlo]; decide
theorem eqat : At 0 (codeOf Try.prog 38) 0 (.loop (bodyAt Try.prog 38 0)) := at_body eqon (by rw [eqlo]; decide)
def eqx (e : Bool) : Ex × St := if e then (.exit 0, eqe) else (.ret, eqn)
theorem eqrun (x : Bool) (a : List I1_T) (y : Bool) (b : List I1_T) (hl : a.length ≤ 100000) (hb : b.length = a.length) : ∀ (k i : Nat), i + k = a.length → ∀ (m : Nat), k < m →
    Runs' Try.prog cfg PK9 38 0 m (eqh x a y b i) (eqx (decide (a.drop i = b.drop i)))
  | 0, i, hi, m + 1, hm => by
    refine Runs'.done (lp := LP0) LPok.none eqat ((eqs_w x a y b i).trans ?_)
    unfold eqs_r
    rw [bK_neg (by simp; omega), List.drop_of_length_le (show a.length ≤ i by omega), List.drop_of_length_le (show b.length ≤ i by omega), decide_eq_true rfl]
    rfl
  | k + 1, i, hi, m + 1, hm => by
    have ha : i < a.length := by omega
    have hb' : i < b.length := by omega
    have hs : eqs x a y b i = (if a.getD i (0 : Int) = b.getD i (0 : Int) then some (.inl (eqh x a y b ((i + 1 : Nat) : Int))) else some (.inr (.ret, eqn))) := by
      refine (eqs_w x a y b i).trans ?_
      unfold eqs_r
      refine bK_tq (Q := fun z => z = _) (by simp; omega) ?_
      refine oK_atq (Q := fun z => z = _) (fs := I1_tfs) (0 : Int) (by omega) (by simpa using ha) ?_
      refine oK_atq (Q := fun z => z = _) (fs := I1_tfs) (0 : Int) (by omega) (by simpa using hb') ?_
      rw [Int.toNat_natCast]
      generalize a.getD i (0 : Int) = p
      generalize b.getD i (0 : Int) = q
      rw [w64 (by omega) (by omega)]
      by_cases e : p = q
      · rw [if_pos e]
        subst e
        rw [bK_neg (by simp)]
        rfl
      · rw [if_neg e, bK_pos (by rw [Bool.not_eq_true']; refine Bool.eq_false_iff.2 fun hh => e ?_; simpa [Prod.ext_iff] using hh)]
        rfl
    have ea : a.drop i = a.getD i (0 : Int) :: a.drop (i + 1) := by rw [List.drop_eq_getElem_cons ha, getD_at ha]
    have eb : b.drop i = b.getD i (0 : Int) :: b.drop (i + 1) := by rw [List.drop_eq_getElem_cons hb', getD_at hb']
    by_cases e : a.getD i (0 : Int) = b.getD i (0 : Int)
    · rw [if_pos e] at hs
      have : decide (a.drop i = b.drop i) = decide (a.drop (i + 1) = b.drop (i + 1)) := by
        rw [ea, eb, e]; simp
      rw [this]
      exact Runs'.step (lp := LP0) LPok.none eqat hs (eqrun x a y b hl hb k (i + 1) (by omega) m (by omega))
    · rw [if_neg e] at hs
      have : decide (a.drop i = b.drop i) = false := by
        rw [ea, eb]; exact decide_eq_false (fun h => e (List.cons.inj h).1)
      rw [this]
      exact Runs'.done (lp := LP0) LPok.none eqat hs
abbrev eqD : Type := Bool × List I1_T × Bool × List I1_T
def eqH (d : eqD) : St := eqh d.1 d.2.1 d.2.2.1 d.2.2.2 0
/-- Alike. -/
def eqQ (a b : List I1_T) : Bool := decide (a = b)
noncomputable def eqL : LP := LP.of (D := eqD) eqH (fun d => d.2.1.length ≤ 100000 ∧ d.2.2.2.length = d.2.1.length) fun d => .ite (eqQ d.2.1 d.2.2.2) (.leaf (.exit 0, eqe)) (.leaf (.ret, eqn))
noncomputable def eqP : LPs := LPs.add LP0 38 0 eqL
theorem eqP_ok : LPok Try.prog cfg PK9 eqP 38 :=
  LPok.addH LPok.none eqon fun d h => by
    have := eqrun d.1 d.2.1 d.2.2.1 d.2.2.2 h.1 h.2 d.2.1.length 0 (by omega) rounds (by have : d.2.1.length ≤ 100000 := h.1; simp only [rounds]; omega)
    simp only [List.drop_zero] at this
    refine cast ?_ this
    congr 1
theorem eqH_inj (d d' : eqD) (h : eqH d = eqH d') : d = d' := by
  obtain ⟨x, a, y, b⟩ := d
  obtain ⟨x', a', y', b'⟩ := d'
  simp only [eqH, eqh, St.mk.injEq, List.cons.injEq, Prod.mk.injEq, AV.slc.injEq, and_true, true_and] at h
  obtain ⟨⟨h1, h2⟩, ⟨h3, h4⟩, _⟩ := h
  rw [h1, map_inj (fs := I1_tfs) rfl h2, h3, map_inj (fs := I1_tfs) rfl h4]
abbrev eq_id : Nat := 38
abbrev eq_sh : Shp := [none, none]
abbrev eq_fs : List Lf := [.fl false [.fi .i64], .fl false [.fi .i64]]
abbrev eq_rsh : Shp := [none]
abbrev eq_rfs : List Lf := [.fb]
noncomputable def eq_r (s1_x : Bool) (s1 : List Int) (s2_x : Bool) (s2 : List Int) : Option Ret :=
  bK (!decide ((↑(List.map (mkV false I1_tfs) s1).length : Int) = (↑(List.map (mkV false I1_tfs) s2).length : Int))) (some { pan := false, res := AV.bool false, out := [], new := [] }) (oK (eqL.dec { fr := [(0, AV.slc s1_x (List.map (mkV false I1_tfs) s1)), (1, AV.slc s2_x (List.map (mkV false I1_tfs) s2)), (12, AV.int IntKind.i64 (↑(List.map (mkV false I1_tfs) s1).length : Int)), (13, AV.int IntKind.i64 0)], bs := [], df := [] }) fun (d0 : Bool × List Int × Bool × List Int) => bK (eqQ d0.snd.fst d0.snd.snd.snd) (some { pan := false, res := AV.bool true, out := [], new := [] }) (some { pan := false, res := AV.bool false, out := [], new := [] }))
theorem eq_w (s1_x : Bool) (s1 : List Int) (s2_x : Bool) (s2 : List Int) : unitQ Try.prog cfg PK9 eqP false 38 (groupA eq_sh (Tu.mk eq_fs ((s1_x, s1), (s2_x, s2)))) [] = eq_r s1_x s1 s2_x s2 := by kernel_rfl

def eqS : FS := ⟨eq_sh, eq_fs, eq_rsh, eq_rfs, fun d => d.1.2.length ≤ 100000, fun d => eqQ d.1.2 d.2.2, none⟩
theorem eq_v (s1_x : Bool) (s1 : List Int) (s2_x : Bool) (s2 : List Int) (h : eqS.pre ((s1_x, s1), (s2_x, s2))) : eq_r s1_x s1 s2_x s2 = some (eqS.ret ((s1_x, s1), (s2_x, s2))) := by
  have h' : s1.length ≤ 100000 := h
  show _ = some (eqS.out (eqQ s1 s2))
  unfold eq_r
  simp only [List.length_map]
  refine bK_n (fun c1 => ?_) (fun c1 => ?_)
  · have : eqQ s1 s2 = false := decide_eq_false (by intro e; rw [e] at c1; exact c1 rfl)
    rw [this]; rfl
  · refine oK_lpq (Q := fun z => z = _) eqH_inj (s1_x, s1, s2_x, s2) ⟨h', by show s2.length = s1.length; omega⟩ ?_
    show bK (eqQ s1 s2) _ _ = _
    cases eqQ s1 s2 <;> rfl
theorem eqO : ∀ d : Tu eqS.fs, eqS.pre d → CallOk Try.prog 38 (eqS.args d) [] (eqS.ret d)
  | ((s1_x, s1), (s2_x, s2)), h => CallOk.unit (fnOk PK9_ok 21) rfl eqP_ok.loops (o := false) (by show 0 ≤ 1000; decide) ((eq_w s1_x s1 s2_x s2).trans (eq_v s1_x s1 s2_x s2 h))
noncomputable def Sm1 : PKs := PKs0.add 38 eqS.pk
theorem Sm1_ok : PKsOk Try.prog Sm1 := PKsOk.anyF PKs0_ok 38 eqS eqO
abbrev sm_id : Nat := 28
abbrev sm_sh : Shp := [some 9, some 9]
abbrev sm_fs : List Lf := [.fi .i64, .fi .i64, .fi .i64, .fi .i64, .fi .i64, .fi .i64, .fi .i64, .fs, .fl false [.fi .i64], .fi .i64, .fi .i64, .fi .i64, .fi .i64, .fi .i64, .fi .i64, .fi .i64, .fs, .fl false [.fi .i64]]
abbrev sm_rsh : Shp := [none]
abbrev sm_rfs : List Lf := [.fb]
noncomputable def sm_r (a_Kind : Int) (a_R : Int) (a_By : Int) (a_File : Int) (a_Off : Int) (a_I : Int) (a_To : Int) (a_Text : List UInt8) (a_Gains_x : Bool) (a_Gains : List Int) (b_Kind : Int) (b_R : Int) (b_By : Int) (b_File : Int) (b_Off : Int) (b_I : Int) (b_To : Int) (b_Text : List UInt8) (b_Gains_x : Bool) (b_Gains : List Int) : Option Ret :=
  bK (decide (a_Kind = b_Kind)) (bK (decide (a_R = b_R)) (bK (decide (a_By = b_By)) (bK (decide (a_File = b_File)) (bK (decide (a_Off = b_Off)) (bK (decide (a_I = b_I)) (bK (decide (a_To = b_To)) (bK (decide (a_Text = b_Text)) (oK (eqS.dec [AV.slc a_Gains_x (List.map (mkV false I1_tfs) a_Gains), AV.slc b_Gains_x (List.map (mkV false I1_tfs) b_Gains)] []) fun (d0 : (Bool × List Int) × Bool × List Int) => some { pan := false, res := AV.bool (eqQ d0.fst.snd d0.snd.snd), out := [], new := [] }) (some { pan := false, res := AV.bool false, out := [], new := [] })) (some { pan := false, res := AV.bool false, out := [], new := [] })) (some { pan := false, res := AV.bool false, out := [], new := [] })) (some { pan := false, res := AV.bool false, out := [], new := [] })) (some { pan := false, res := AV.bool false, out := [], new := [] })) (some { pan := false, res := AV.bool false, out := [], new := [] })) (some { pan := false, res := AV.bool false, out := [], new := [] })) (some { pan := false, res := AV.bool false, out := [], new := [] })
theorem sm_w (a_Kind : Int) (a_R : Int) (a_By : Int) (a_File : Int) (a_Off : Int) (a_I : Int) (a_To : Int) (a_Text : List UInt8) (a_Gains_x : Bool) (a_Gains : List Int) (b_Kind : Int) (b_R : Int) (b_By : Int) (b_File : Int) (b_Off : Int) (b_I : Int) (b_To : Int) (b_Text : List UInt8) (b_Gains_x : Bool) (b_Gains : List Int) : unitQ Try.prog cfg Sm1 LP0 false 28 (groupA sm_sh (Tu.mk sm_fs (a_Kind, a_R, a_By, a_File, a_Off, a_I, a_To, a_Text, (a_Gains_x, a_Gains), b_Kind, b_R, b_By, b_File, b_Off, b_I, b_To, b_Text, (b_Gains_x, b_Gains)))) [] = sm_r a_Kind a_R a_By a_File a_Off a_I a_To a_Text a_Gains_x a_Gains b_Kind b_R b_By b_File b_Off b_I b_To b_Text b_Gains_x b_Gains := by kernel_rfl

end Go.Proofs.Ytmjgiplgghmapaa
