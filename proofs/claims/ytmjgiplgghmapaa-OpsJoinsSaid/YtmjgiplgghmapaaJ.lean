/- A part of the proof: contracts of functions. -/
import Derived.Test.YtmjgiplgghmapaaI
import Derived.Test.YtmjgiplgghmapaaAbAny

set_option linter.unusedVariables false
set_option linter.unusedSimpArgs false
set_option maxRecDepth 100000
namespace Go.Proofs.Ytmjgiplgghmapaa
open Go Go.Ab
set_option maxHeartbeats 8000000
abbrev KeyT : Type := (Int × Int × Int × Int) × (Int × Int × Int) × List UInt8 × List Int
/-- All of a step but whether its gains are nil. -/
def sK (s : Step_T) : KeyT := ((s.1, s.2.1, s.2.2.1, s.2.2.2.1), (s.2.2.2.2.1, s.2.2.2.2.2.1, s.2.2.2.2.2.2.1), s.2.2.2.2.2.2.2.1, s.2.2.2.2.2.2.2.2.2)
/-- Alike in all. -/
def smF (d : Tu sm_fs) : Bool := decide (sK (d.1, d.2.1, d.2.2.1, d.2.2.2.1, d.2.2.2.2.1, d.2.2.2.2.2.1, d.2.2.2.2.2.2.1, d.2.2.2.2.2.2.2.1, d.2.2.2.2.2.2.2.2.1) = sK d.2.2.2.2.2.2.2.2.2)
noncomputable def smS : FS := ⟨sm_sh, sm_fs, sm_rsh, sm_rfs, fun d => d.2.2.2.2.2.2.2.2.1.2.length ≤ 100000, fun d => smF d, none⟩
def sm2 (a b : Step_T) : Tu sm_fs := (a.1, a.2.1, a.2.2.1, a.2.2.2.1, a.2.2.2.2.1, a.2.2.2.2.2.1, a.2.2.2.2.2.2.1, a.2.2.2.2.2.2.2.1, a.2.2.2.2.2.2.2.2, b)
theorem smF_2 (a b : Step_T) : smF (sm2 a b) = decide (sK a = sK b) := rfl
theorem smO : ∀ d : Tu smS.fs, smS.pre d → CallOk Try.prog 28 (smS.args d) [] (smS.ret d) := by
  rintro ⟨k, r, y, f, o, i, t, T, ⟨gx, g⟩, k', r', y', f', o', i', t', T', gx', g'⟩ hg
  have hg : g.length ≤ 100000 := hg
  refine CallOk.unit (fnOk Sm1_ok 21) rfl fLoops_none (o := false) (by show 0 ≤ 1000; decide) ((sm_w k r y f o i t T gx g k' r' y' f' o' i' t' T' gx' g').trans ?_)
  show _ = some (smS.out (decide (sK (k, r, y, f, o, i, t, T, (gx, g)) = sK (k', r', y', f', o', i', t', T', (gx', g')))))
  unfold sm_r
  by_cases c0 : k = k'
  case neg =>
    refine bK_fq (Q := fun z => z = _) (decide_eq_false c0) ?_
    rw [decide_eq_false (fun h => c0 (by simp only [sK, Prod.mk.injEq] at h; exact h.1.1))]
    rfl
  refine bK_tq (Q := fun z => z = _) (decide_eq_true c0) ?_
  by_cases c1 : r = r'
  case neg =>
    refine bK_fq (Q := fun z => z = _) (decide_eq_false c1) ?_
    rw [decide_eq_false (fun h => c1 (by simp only [sK, Prod.mk.injEq] at h; exact h.1.2.1))]
    rfl
  refine bK_tq (Q := fun z => z = _) (decide_eq_true c1) ?_
  by_cases c2 : y = y'
  case neg =>
    refine bK_fq (Q := fun z => z = _) (decide_eq_false c2) ?_
    rw [decide_eq_false (fun h => c2 (by simp only [sK, Prod.mk.injEq] at h; exact h.1.2.2.1))]
    rfl
  refine bK_tq (Q := fun z => z = _) (decide_eq_true c2) ?_
  by_cases c3 : f = f'
  case neg =>
    refine bK_fq (Q := fun z => z = _) (decide_eq_false c3) ?_
    rw [decide_eq_false (fun h => c3 (by simp only [sK, Prod.mk.injEq] at h; exact h.1.2.2.2))]
    rfl
  refine bK_tq (Q := fun z => z = _) (decide_eq_true c3) ?_
  by_cases c4 : o = o'
  case neg =>
    refine bK_fq (Q := fun z => z = _) (decide_eq_false c4) ?_
    rw [decide_eq_false (fun h => c4 (by simp only [sK, Prod.mk.injEq] at h; exact h.2.1.1))]
    rfl
  refine bK_tq (Q := fun z => z = _) (decide_eq_true c4) ?_
  by_cases c5 : i = i'
  case neg =>
    refine bK_fq (Q := fun z => z = _) (decide_eq_false c5) ?_
    rw [decide_eq_false (fun h => c5 (by simp only [sK, Prod.mk.injEq] at h; exact h.2.1.2.1))]
    rfl
  refine bK_tq (Q := fun z => z = _) (decide_eq_true c5) ?_
  by_cases c6 : t = t'
  case neg =>
    refine bK_fq (Q := fun z => z = _) (decide_eq_false c6) ?_
    rw [decide_eq_false (fun h => c6 (by simp only [sK, Prod.mk.injEq] at h; exact h.2.1.2.2))]
    rfl
  refine bK_tq (Q := fun z => z = _) (decide_eq_true c6) ?_
  by_cases c7 : T = T'
  case neg =>
    refine bK_fq (Q := fun z => z = _) (decide_eq_false c7) ?_
    rw [decide_eq_false (fun h => c7 (by simp only [sK, Prod.mk.injEq] at h; exact h.2.2.1))]
    rfl
  refine bK_tq (Q := fun z => z = _) (decide_eq_true c7) ?_
  refine oK_fsq (Q := fun z => z = _) eqS ((gx, g), (gx', g')) hg ?_
  subst c0 c1 c2 c3 c4 c5 c6 c7
  have e : decide (sK (k, r, y, f, o, i, t, T, (gx, g)) = sK (k, r, y, f, o, i, t, T, (gx', g'))) = decide (g = g') := by simp [sK]
  rw [e]
  rfl
def ssh (a b : Step_T) (i : Int) : St := { fr := [(2, .ptr 32 0 0 0), (3, .ptr 48 0 0 0), (5, .int .i64 i)], bs := [(32, boxB (Tu.mk Step_tfs a)), (48, boxB (Tu.mk Step_tfs b))], df := [] }
noncomputable def ss_s (a b : Step_T) (i : Int) : Option (St ⊕ (Ex × St)) := stepK Try.prog cfg PKs0 LP0 18 0 (ssh a b i)
noncomputable def ss_s_r (a : Step_T) (b : Step_T) (i : Int) : Option (St ⊕ Ex × St) :=
  bK (decide (i < (↑(List.map (mkV false I1_tfs) a.snd.snd.snd.snd.snd.snd.snd.snd.snd).length : Int)))
  (oK (elemAt false I1_tfs (List.map (mkV false I1_tfs) a.snd.snd.snd.snd.snd.snd.snd.snd.snd) i) fun (d0 : Int) =>
    oK (elemAt false I1_tfs (List.map (mkV false I1_tfs) b.snd.snd.snd.snd.snd.snd.snd.snd.snd) i) fun (d1 : Int) =>
      bK (!decide (d0 = d1)) (some (Sum.inr (Ex.ret, { fr := [(2, AV.ptr 32 0 0 0), (3, AV.ptr 48 0 0 0), (4, AV.bool false)], bs := [(32, { v := 0, k := BK.box, fz := false, sz := 0, es := [AV.int IntKind.i64 a.fst, AV.int IntKind.i64 a.snd.fst, AV.int IntKind.i64 a.snd.snd.fst, AV.int IntKind.i64 a.snd.snd.snd.fst, AV.int IntKind.i64 a.snd.snd.snd.snd.fst, AV.int IntKind.i64 a.snd.snd.snd.snd.snd.fst, AV.int IntKind.i64 a.snd.snd.snd.snd.snd.snd.fst, AV.str a.snd.snd.snd.snd.snd.snd.snd.fst, AV.slc a.snd.snd.snd.snd.snd.snd.snd.snd.fst (List.map (mkV false I1_tfs) a.snd.snd.snd.snd.snd.snd.snd.snd.snd)] }), (48, { v := 0, k := BK.box, fz := false, sz := 0, es := [AV.int IntKind.i64 b.fst, AV.int IntKind.i64 b.snd.fst, AV.int IntKind.i64 b.snd.snd.fst, AV.int IntKind.i64 b.snd.snd.snd.fst, AV.int IntKind.i64 b.snd.snd.snd.snd.fst, AV.int IntKind.i64 b.snd.snd.snd.snd.snd.fst, AV.int IntKind.i64 b.snd.snd.snd.snd.snd.snd.fst, AV.str b.snd.snd.snd.snd.snd.snd.snd.fst, AV.slc b.snd.snd.snd.snd.snd.snd.snd.snd.fst (List.map (mkV false I1_tfs) b.snd.snd.snd.snd.snd.snd.snd.snd.snd)] })], df := [] })))
        (some (Sum.inl { fr := [(2, AV.ptr 32 0 0 0), (3, AV.ptr 48 0 0 0), (5, AV.int IntKind.i64 (IntKind.i64.wrap (i + 1)))], bs := [(32, { v := 0, k := BK.box, fz := false, sz := 0, es := [AV.int IntKind.i64 a.fst, AV.int IntKind.i64 a.snd.fst, AV.int IntKind.i64 a.snd.snd.fst, AV.int IntKind.i64 a.snd.snd.snd.fst, AV.int IntKind.i64 a.snd.snd.snd.snd.fst, AV.int IntKind.i64 a.snd.snd.snd.snd.snd.fst, AV.int IntKind.i64 a.snd.snd.snd.snd.snd.snd.fst, AV.str a.snd.snd.snd.snd.snd.snd.snd.fst, AV.slc a.snd.snd.snd.snd.snd.snd.snd.snd.fst (List.map (mkV false I1_tfs) a.snd.snd.snd.snd.snd.snd.snd.snd.snd)] }), (48, { v := 0, k := BK.box, fz := false, sz := 0, es := [AV.int IntKind.i64 b.fst, AV.int IntKind.i64 b.snd.fst, AV.int IntKind.i64 b.snd.snd.fst, AV.int IntKind.i64 b.snd.snd.snd.fst, AV.int IntKind.i64 b.snd.snd.snd.snd.fst, AV.int IntKind.i64 b.snd.snd.snd.snd.snd.fst, AV.int IntKind.i64 b.snd.snd.snd.snd.snd.snd.fst, AV.str b.snd.snd.snd.snd.snd.snd.snd.fst, AV.slc b.snd.snd.snd.snd.snd.snd.snd.snd.fst (List.map (mkV false I1_tfs) b.snd.snd.snd.snd.snd.snd.snd.snd.snd)] })], df := [] })))
  (some (Sum.inr (Ex.exit 0, { fr := [(2, AV.ptr 32 0 0 0), (3, AV.ptr 48 0 0 0)], bs := [(32, { v := 0, k := BK.box, fz := false, sz := 0, es := [AV.int IntKind.i64 a.fst, AV.int IntKind.i64 a.snd.fst, AV.int IntKind.i64 a.snd.snd.fst, AV.int IntKind.i64 a.snd.snd.snd.fst, AV.int IntKind.i64 a.snd.snd.snd.snd.fst, AV.int IntKind.i64 a.snd.snd.snd.snd.snd.fst, AV.int IntKind.i64 a.snd.snd.snd.snd.snd.snd.fst, AV.str a.snd.snd.snd.snd.snd.snd.snd.fst, AV.slc a.snd.snd.snd.snd.snd.snd.snd.snd.fst (List.map (mkV false I1_tfs) a.snd.snd.snd.snd.snd.snd.snd.snd.snd)] }), (48, { v := 0, k := BK.box, fz := false, sz := 0, es := [AV.int IntKind.i64 b.fst, AV.int IntKind.i64 b.snd.fst, AV.int IntKind.i64 b.snd.snd.fst, AV.int IntKind.i64 b.snd.snd.snd.fst, AV.int IntKind.i64 b.snd.snd.snd.snd.fst, AV.int IntKind.i64 b.snd.snd.snd.snd.snd.fst, AV.int IntKind.i64 b.snd.snd.snd.snd.snd.snd.fst, AV.str b.snd.snd.snd.snd.snd.snd.snd.fst, AV.slc b.snd.snd.snd.snd.snd.snd.snd.snd.fst (List.map (mkV false I1_tfs) b.snd.snd.snd.snd.snd.snd.snd.snd.snd)] })], df := [] })))
theorem ss_s_w (a : Step_T) (b : Step_T) (i : Int) : ss_s a b i = ss_s_r a b i := by kernel_rfl

def ssE (a b : Step_T) (e : Bool) : Ex × St := if e = true then (.exit 0, { fr := [(2, .ptr 32 0 0 0), (3, .ptr 48 0 0 0)], bs := [(32, boxB (Tu.mk Step_tfs a)), (48, boxB (Tu.mk Step_tfs b))], df := [] }) else (.ret, { fr := [(2, .ptr 32 0 0 0), (3, .ptr 48 0 0 0), (4, .bool false)], bs := [(32, boxB (Tu.mk Step_tfs a)), (48, boxB (Tu.mk Step_tfs b))], df := [] })
abbrev gA (a : Step_T) : List Int := a.2.2.2.2.2.2.2.2.2
theorem gl18 : (loopsOf 0 (codeOf Try.prog 18)).map (·.1) = [0] := by kernel_rfl
theorem go18 : OneLoops Try.prog 18 := by unfold OneLoops; rw [gl18]; decide
theorem ga18 : At 0 (codeOf Try.prog 18) 0 (.loop (bodyAt Try.prog 18 0)) := at_body go18 (by rw [gl18]; decide)
theorem ss_run (a b : Step_T) (hl : (gA a).length ≤ 100000) (hb : (gA b).length = (gA a).length) : ∀ (j i : Nat), i + j = (gA a).length → ∀ (fu : Nat), j < fu → Runs' Try.prog cfg PKs0 18 0 fu (ssh a b i) (ssE a b (decide ((gA a).drop i = (gA b).drop i)))
  | 0, i, hi, fu + 1, hf => by
    have e : decide ((gA a).drop i = (gA b).drop i) = true := decide_eq_true (by rw [List.drop_of_length_le (by omega), List.drop_of_length_le (by omega)])
    rw [e]
    refine Runs'.done (lp := LP0) LPok.none ga18 ((ss_s_w a b i).trans ?_)
    unfold ss_s_r
    have hi' : i = a.2.2.2.2.2.2.2.2.2.length := hi
    exact bK_neg (by simp; omega)
  | j + 1, i, hi, fu + 1, hf => by
    have h1 : i < (gA a).length := by omega
    have h2 : i < (gA b).length := by omega
    have ei : IntKind.i64.wrap ((i : Int) + 1) = ((i + 1 : Nat) : Int) := by rw [w64 (by omega) (by omega)]; omega
    have e2 : (gA a).getD (i : Int).toNat (0 : Int) = (gA a)[i] := by rw [Int.toNat_natCast, getD_at h1]
    have e3 : (gA b).getD (i : Int).toNat (0 : Int) = (gA b)[i] := by rw [Int.toNat_natCast, getD_at h2]
    have hs : ss_s a b i = if (gA a)[i] = (gA b)[i] then some (.inl (ssh a b ((i + 1 : Nat) : Int))) else some (.inr (ssE a b false)) := by
      refine (ss_s_w a b i).trans ?_
      unfold ss_s_r
      refine bK_tq (Q := fun z => z = _) (by simp; omega) ?_
      refine oK_atq (Q := fun z => z = _) (fs := I1_tfs) (agg := false) (0 : Int) (by omega) (by simpa using h1) ?_
      refine oK_atq (Q := fun z => z = _) (fs := I1_tfs) (agg := false) (0 : Int) (by omega) (by simpa using h2) ?_
      rw [e2, e3, ei]
      by_cases e : (gA a)[i] = (gA b)[i]
      · rw [if_pos e]; exact bK_fq (Q := fun z => z = _) (by rw [decide_eq_true e]; rfl) rfl
      · rw [if_neg e]; exact bK_tq (Q := fun z => z = _) (by rw [decide_eq_false e]; rfl) rfl
    rw [List.drop_eq_getElem_cons h1, List.drop_eq_getElem_cons h2]
    by_cases e : (gA a)[i] = (gA b)[i]
    · rw [if_pos e] at hs
      have e4 : decide ((gA a)[i] :: (gA a).drop (i + 1) = (gA b)[i] :: (gA b).drop (i + 1)) = decide ((gA a).drop (i + 1) = (gA b).drop (i + 1)) := by rw [e]; simp only [List.cons.injEq, true_and]
      rw [e4]
      exact Runs'.step (lp := LP0) LPok.none ga18 hs (ss_run a b hl hb j (i + 1) (by omega) fu (by omega))
    · rw [if_neg e] at hs
      rw [decide_eq_false (fun h => e (List.cons.inj h).1)]
      exact Runs'.done (lp := LP0) LPok.none ga18 hs
def ssHd (d : Step_T × Step_T) : St := ssh d.1 d.2 0
theorem ssHd_inj (d d' : Step_T × Step_T) (h : ssHd d = ssHd d') : d = d' := by
  obtain ⟨a, b⟩ := d
  obtain ⟨a', b'⟩ := d'
  simp only [ssHd, ssh, boxB, St.mk.injEq, List.cons.injEq, Prod.mk.injEq, Blk.mk.injEq, and_true, true_and] at h
  rw [mk_inj (fs := Step_tfs) rfl h.1, mk_inj (fs := Step_tfs) rfl h.2]
/-- The same gains. -/
def sgQ (a b : Step_T) : Bool := decide (gA a = gA b)
noncomputable def ssL : LP := LP.of ssHd (fun d => (gA d.1).length ≤ 100000 ∧ (gA d.2).length = (gA d.1).length) fun d => .ite (sgQ d.1 d.2) (.leaf (.exit 0, { fr := [(2, .ptr 32 0 0 0), (3, .ptr 48 0 0 0)], bs := [(32, boxB (Tu.mk Step_tfs d.1)), (48, boxB (Tu.mk Step_tfs d.2))], df := [] })) (.leaf (.ret, { fr := [(2, .ptr 32 0 0 0), (3, .ptr 48 0 0 0), (4, .bool false)], bs := [(32, boxB (Tu.mk Step_tfs d.1)), (48, boxB (Tu.mk Step_tfs d.2))], df := [] }))
noncomputable def ssP : LPs := LPs.add LP0 18 0 ssL
theorem ssP_ok : LPok Try.prog cfg PKs0 ssP 18 := LPok.addH LPok.none go18 (by
  rintro ⟨a, b⟩ ⟨h1, h2⟩
  have hr := ss_run a b h1 h2 (gA a).length 0 (by omega) rounds (by have h1 : (gA a).length ≤ 100000 := h1; simp only [rounds]; omega)
  rw [List.drop_zero, List.drop_zero] at hr
  refine cast ?_ hr
  congr 1)
abbrev ss_id : Nat := 18
abbrev ss_sh : Shp := [some 9, some 9]
abbrev ss_fs : List Lf := [.fi .i64, .fi .i64, .fi .i64, .fi .i64, .fi .i64, .fi .i64, .fi .i64, .fs, .fl false [.fi .i64], .fi .i64, .fi .i64, .fi .i64, .fi .i64, .fi .i64, .fi .i64, .fi .i64, .fs, .fl false [.fi .i64]]
abbrev ss_rsh : Shp := [none]
abbrev ss_rfs : List Lf := [.fb]
noncomputable def ss_r (a_Kind : Int) (a_R : Int) (a_By : Int) (a_File : Int) (a_Off : Int) (a_I : Int) (a_To : Int) (a_Text : List UInt8) (a_Gains_x : Bool) (a_Gains : List Int) (b_Kind : Int) (b_R : Int) (b_By : Int) (b_File : Int) (b_Off : Int) (b_I : Int) (b_To : Int) (b_Text : List UInt8) (b_Gains_x : Bool) (b_Gains : List Int) : Option Ret :=
  bK (!decide ((↑(List.map (mkV false I1_tfs) a_Gains).length : Int) = (↑(List.map (mkV false I1_tfs) b_Gains).length : Int))) (some { pan := false, res := AV.bool false, out := [], new := [] })
  (oK (ssL.dec { fr := [(2, AV.ptr 32 0 0 0), (3, AV.ptr 48 0 0 0), (5, AV.int IntKind.i64 0)], bs := [(32, { v := 0, k := BK.box, fz := false, sz := 0, es := [AV.int IntKind.i64 a_Kind, AV.int IntKind.i64 a_R, AV.int IntKind.i64 a_By, AV.int IntKind.i64 a_File, AV.int IntKind.i64 a_Off, AV.int IntKind.i64 a_I, AV.int IntKind.i64 a_To, AV.str a_Text, AV.slc a_Gains_x (List.map (mkV false I1_tfs) a_Gains)] }), (48, { v := 0, k := BK.box, fz := false, sz := 0, es := [AV.int IntKind.i64 b_Kind, AV.int IntKind.i64 b_R, AV.int IntKind.i64 b_By, AV.int IntKind.i64 b_File, AV.int IntKind.i64 b_Off, AV.int IntKind.i64 b_I, AV.int IntKind.i64 b_To, AV.str b_Text, AV.slc b_Gains_x (List.map (mkV false I1_tfs) b_Gains)] })], df := [] }) fun (d0 : (Int × Int × Int × Int × Int × Int × Int × List UInt8 × Bool × List Int) × Int × Int × Int × Int × Int × Int × Int × List UInt8 × Bool × List Int) =>
    bK (sgQ d0.fst d0.snd) (bK (decide (d0.fst.fst = d0.snd.fst)) (bK (decide (d0.fst.snd.fst = d0.snd.snd.fst)) (bK (decide (d0.fst.snd.snd.fst = d0.snd.snd.snd.fst)) (bK (decide (d0.fst.snd.snd.snd.fst = d0.snd.snd.snd.snd.fst)) (bK (decide (d0.fst.snd.snd.snd.snd.fst = d0.snd.snd.snd.snd.snd.fst)) (bK (decide (d0.fst.snd.snd.snd.snd.snd.fst = d0.snd.snd.snd.snd.snd.snd.fst)) (bK (decide (d0.fst.snd.snd.snd.snd.snd.snd.fst = d0.snd.snd.snd.snd.snd.snd.snd.fst)) (some { pan := false, res := AV.bool (decide (d0.fst.snd.snd.snd.snd.snd.snd.snd.fst = d0.snd.snd.snd.snd.snd.snd.snd.snd.fst)), out := [], new := [] }) (some { pan := false, res := AV.bool false, out := [], new := [] })) (some { pan := false, res := AV.bool false, out := [], new := [] })) (some { pan := false, res := AV.bool false, out := [], new := [] })) (some { pan := false, res := AV.bool false, out := [], new := [] })) (some { pan := false, res := AV.bool false, out := [], new := [] })) (some { pan := false, res := AV.bool false, out := [], new := [] })) (some { pan := false, res := AV.bool false, out := [], new := [] })) (some { pan := false, res := AV.bool false, out := [], new := [] }))
theorem ss_w (a_Kind : Int) (a_R : Int) (a_By : Int) (a_File : Int) (a_Off : Int) (a_I : Int) (a_To : Int) (a_Text : List UInt8) (a_Gains_x : Bool) (a_Gains : List Int) (b_Kind : Int) (b_R : Int) (b_By : Int) (b_File : Int) (b_Off : Int) (b_I : Int) (b_To : Int) (b_Text : List UInt8) (b_Gains_x : Bool) (b_Gains : List Int) : unitQ Try.prog cfg PKs0 ssP false 18 (groupA ss_sh (Tu.mk ss_fs (a_Kind, a_R, a_By, a_File, a_Off, a_I, a_To, a_Text, (a_Gains_x, a_Gains), b_Kind, b_R, b_By, b_File, b_Off, b_I, b_To, b_Text, (b_Gains_x, b_Gains)))) [] = ss_r a_Kind a_R a_By a_File a_Off a_I a_To a_Text a_Gains_x a_Gains b_Kind b_R b_By b_File b_Off b_I b_To b_Text b_Gains_x b_Gains := by kernel_rfl

noncomputable def ssS : FS := ⟨ss_sh, ss_fs, ss_rsh, ss_rfs, fun d => d.2.2.2.2.2.2.2.2.1.2.length ≤ 100000, fun d => smF d, none⟩
theorem ssO : ∀ d : Tu ssS.fs, ssS.pre d → CallOk Try.prog 18 (ssS.args d) [] (ssS.ret d) := by
  rintro ⟨k, r, y, f, o, i, t, T, ⟨gx, g⟩, k', r', y', f', o', i', t', T', gx', g'⟩ hg
  have hg : g.length ≤ 100000 := hg
  refine CallOk.unit (fnOk PKs0_ok 21) rfl ssP_ok.loops (o := false) (by show 0 ≤ 1000; decide) ((ss_w k r y f o i t T gx g k' r' y' f' o' i' t' T' gx' g').trans ?_)
  show _ = some (ssS.out (decide (sK (k, r, y, f, o, i, t, T, (gx, g)) = sK (k', r', y', f', o', i', t', T', (gx', g')))))
  unfold ss_r
  by_cases cl : g.length = g'.length
  case neg =>
    refine bK_tq (Q := fun z => z = _) (by simp; omega) ?_
    rw [decide_eq_false (fun h => cl (by simp only [sK, Prod.mk.injEq] at h; rw [h.2.2.2]))]
    rfl
  refine bK_fq (Q := fun z => z = _) (by simp; omega) ?_
  refine oK_lpf (Q := fun z => z = _) ssHd_inj ((k, r, y, f, o, i, t, T, (gx, g)), (k', r', y', f', o', i', t', T', (gx', g'))) ⟨hg, cl.symm⟩ rfl ?_
  dsimp only
  by_cases cg : g = g'
  case neg =>
    refine bK_fq (Q := fun z => z = _) (decide_eq_false cg) ?_
    rw [decide_eq_false (fun h => cg (by simp only [sK, Prod.mk.injEq] at h; exact h.2.2.2))]
    rfl
  refine bK_tq (Q := fun z => z = _) (decide_eq_true cg) ?_
  by_cases c0 : k = k'
  case neg =>
    refine bK_fq (Q := fun z => z = _) (decide_eq_false c0) ?_
    rw [decide_eq_false (fun h => c0 (by simp only [sK, Prod.mk.injEq] at h; exact h.1.1))]
    rfl
  refine bK_tq (Q := fun z => z = _) (decide_eq_true c0) ?_
  by_cases c1 : r = r'
  case neg =>
    refine bK_fq (Q := fun z => z = _) (decide_eq_false c1) ?_
    rw [decide_eq_false (fun h => c1 (by simp only [sK, Prod.mk.injEq] at h; exact h.1.2.1))]
    rfl
  refine bK_tq (Q := fun z => z = _) (decide_eq_true c1) ?_
  by_cases c2 : y = y'
  case neg =>
    refine bK_fq (Q := fun z => z = _) (decide_eq_false c2) ?_
    rw [decide_eq_false (fun h => c2 (by simp only [sK, Prod.mk.injEq] at h; exact h.1.2.2.1))]
    rfl
  refine bK_tq (Q := fun z => z = _) (decide_eq_true c2) ?_
  by_cases c3 : f = f'
  case neg =>
    refine bK_fq (Q := fun z => z = _) (decide_eq_false c3) ?_
    rw [decide_eq_false (fun h => c3 (by simp only [sK, Prod.mk.injEq] at h; exact h.1.2.2.2))]
    rfl
  refine bK_tq (Q := fun z => z = _) (decide_eq_true c3) ?_
  by_cases c4 : o = o'
  case neg =>
    refine bK_fq (Q := fun z => z = _) (decide_eq_false c4) ?_
    rw [decide_eq_false (fun h => c4 (by simp only [sK, Prod.mk.injEq] at h; exact h.2.1.1))]
    rfl
  refine bK_tq (Q := fun z => z = _) (decide_eq_true c4) ?_
  by_cases c5 : i = i'
  case neg =>
    refine bK_fq (Q := fun z => z = _) (decide_eq_false c5) ?_
    rw [decide_eq_false (fun h => c5 (by simp only [sK, Prod.mk.injEq] at h; exact h.2.1.2.1))]
    rfl
  refine bK_tq (Q := fun z => z = _) (decide_eq_true c5) ?_
  by_cases c6 : t = t'
  case neg =>
    refine bK_fq (Q := fun z => z = _) (decide_eq_false c6) ?_
    rw [decide_eq_false (fun h => c6 (by simp only [sK, Prod.mk.injEq] at h; exact h.2.1.2.2))]
    rfl
  refine bK_tq (Q := fun z => z = _) (decide_eq_true c6) ?_
  subst cg c0 c1 c2 c3 c4 c5 c6
  have e : decide (sK (k, r, y, f, o, i, t, T, (gx, g)) = sK (k, r, y, f, o, i, t, T', (gx', g))) = decide (T = T') := by simp [sK]
  rw [e]
  rfl

end Go.Proofs.Ytmjgiplgghmapaa
