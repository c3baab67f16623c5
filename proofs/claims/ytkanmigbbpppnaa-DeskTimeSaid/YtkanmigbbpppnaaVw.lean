/- A part of the proof: contracts of functions. -/
import Derived.Test.YtkanmigbbpppnaaXw
import Derived.Test.YtkanmigbbpppnaaAbAny

set_option linter.unusedVariables false
set_option linter.unusedSimpArgs false
set_option maxRecDepth 100000
namespace Go.Proofs.Ytkanmigbbpppnaa
open Go Go.Ab
def swhw (x : Bool) (a : List Wait_T) (y : Bool) (b : List Wait_T) (i : Int) : St := { fr := [(0, .slc x (a.map (mkV true Wait_tfs))), (1, .slc y (b.map (mkV true Wait_tfs))), (5, .int .i64 i)], bs := [], df := [] }
noncomputable def swsw (x : Bool) (a : List Wait_T) (y : Bool) (b : List Wait_T) (i : Int) : Option (St ⊕ (Ex × St)) := stepK Try.prog cfg PKz LP0 16 0 (swhw x a y b i)
noncomputable def swsw_r (x : Bool) (a : List Wait_T) (y : Bool) (b : List Wait_T) (i : Int) : Option (St ⊕ Ex × St) :=
 bK (decide (i < (↑(mW a).length : Int))) (oK (elemAt true Wait_tfs (mW a) i) fun (d0 : Int × Int × Int × Int) => oK (elemAt true Wait_tfs (mW b) i) fun (d1 : Int × Int × Int × Int) => bK (!(decide (d0.1 = d1.1) && (decide (d0.2.1 = d1.2.1) && (decide (d0.2.2.1 = d1.2.2.1) && (decide (d0.2.2.2 = d1.2.2.2) && true))))) (some (.inr (.ret, (sf [(4, .bool false)] [])))) (some (.inl (sf [(0, sl x a), (1, sl y b), (5, i6 (IntKind.i64.wrap (i + 1)))] [])))) (some (.inr (.exit 0, (sf [] []))))
theorem swsw_w (x : Bool) (a : List Wait_T) (y : Bool) (b : List Wait_T) (i : Int) : swsw x a y b i = swsw_r x a y b i := by kernel_rfl

def swew : St := { fr := [], bs := [], df := [] }
def swnw : St := { fr := [(4, .bool false)], bs := [], df := [] }
theorem swlow : (loopsOf 0 (codeOf Try.prog 16)).map (·.1) = [0] := by kernel_rfl
theorem swonw : OneLoops Try.prog 16 := by unfold OneLoops; rw [swlow]; decide
theorem swatw : At 0 (codeOf Try.prog 16) 0 (.loop (bodyAt Try.prog 16 0)) := at_body swonw (by rw [swlow]; decide)
def swxw (e : Bool) : Ex × St := if e then (.exit 0, swew) else (.ret, swnw)
theorem swrunw (x : Bool) (a : List Wait_T) (y : Bool) (b : List Wait_T) (hl : a.length ≤ 100000) (hb : b.length = a.length) : ∀ (k i : Nat), i + k = a.length → ∀ (m : Nat), k < m →
  Runs' Try.prog cfg PKz 16 0 m (swhw x a y b i) (swxw (decide (a.drop i = b.drop i)))
 | 0, i, hi, m + 1, hm => by
  refine Runs'.done (lp := LP0) LPok.none swatw ((swsw_w x a y b i).trans ?_)
  unfold swsw_r
  rw [bK_neg (by simp; omega), List.drop_of_length_le (show a.length ≤ i by omega), List.drop_of_length_le (show b.length ≤ i by omega), decide_eq_true rfl]
  rfl
 | k + 1, i, hi, m + 1, hm => by
  have ha : i < a.length := by omega
  have hb' : i < b.length := by omega
  have hs : swsw x a y b i = (if a.getD i (0, 0, 0, 0) = b.getD i (0, 0, 0, 0) then some (.inl (swhw x a y b ((i + 1 : Nat) : Int))) else some (.inr (.ret, swnw))) := by
   refine (swsw_w x a y b i).trans ?_
   unfold swsw_r
   refine bK_tq (Q := (· = _)) (by simp; omega) ?_
   refine oK_atq (Q := (· = _)) (fs := Wait_tfs) (0, 0, 0, 0) (by omega) (by simpa using ha) ?_
   refine oK_atq (Q := (· = _)) (fs := Wait_tfs) (0, 0, 0, 0) (by omega) (by simpa using hb') ?_
   rw [Int.toNat_natCast]
   generalize a.getD i (0, 0, 0, 0) = p
   generalize b.getD i (0, 0, 0, 0) = q
   rw [w64 (by omega) (by omega)]
   by_cases e : p = q
   ·rw [if_pos e]
    subst e
    rw [bK_neg (by simp)]
    rfl
   ·rw [if_neg e, bK_pos (by rw [Bool.not_eq_true']; refine Bool.eq_false_iff.2 fun hh => e ?_; simpa [Prod.ext_iff] using hh)]
    rfl
  have ea : a.drop i = a.getD i (0, 0, 0, 0) :: a.drop (i + 1) := by rw [List.drop_eq_getElem_cons ha, getD_at ha]
  have eb : b.drop i = b.getD i (0, 0, 0, 0) :: b.drop (i + 1) := by rw [List.drop_eq_getElem_cons hb', getD_at hb']
  by_cases e : a.getD i (0, 0, 0, 0) = b.getD i (0, 0, 0, 0)
  ·rw [if_pos e] at hs
   have : decide (a.drop i = b.drop i) = decide (a.drop (i + 1) = b.drop (i + 1)) := by
    rw [ea, eb, e]; simp
   rw [this]
   exact Runs'.step (lp := LP0) LPok.none swatw hs (swrunw x a y b hl hb k (i + 1) (by omega) m (by omega))
  ·rw [if_neg e] at hs
   have : decide (a.drop i = b.drop i) = false := by
    rw [ea, eb]; exact decide_eq_false (fun h => e (List.cons.inj h).1)
   rw [this]
   exact Runs'.done (lp := LP0) LPok.none swatw hs
abbrev swDw : Type := Bool × List Wait_T × Bool × List Wait_T
def swHw (d : swDw) : St := swhw d.1 d.2.1 d.2.2.1 d.2.2.2 0
def swQw (a b : List Wait_T) : Bool := decide (a = b)
noncomputable def swLw : LP := LP.of (D := swDw) swHw (fun d => d.2.1.length ≤ 100000 ∧ d.2.2.2.length = d.2.1.length) fun d => .ite (swQw d.2.1 d.2.2.2) (.leaf (.exit 0, swew)) (.leaf (.ret, swnw))
noncomputable def swPw : LPs := LPs.add LP0 16 0 swLw
theorem swP_okw : LPok Try.prog cfg PKz swPw 16 :=
 LPok.addH LPok.none swonw fun d h => by
  have := swrunw d.1 d.2.1 d.2.2.1 d.2.2.2 h.1 h.2 d.2.1.length 0 (by omega) rounds (by have : d.2.1.length ≤ 100000 := h.1; simp only [rounds]; omega)
  simp only [List.drop_zero] at this
  refine cast ?_ this
  congr 1
theorem swH_injw (d d' : swDw) (h : swHw d = swHw d') : d = d' := by
 obtain ⟨x, a, y, b⟩ := d
 obtain ⟨x', a', y', b'⟩ := d'
 simp only [swHw, swhw, St.mk.injEq, List.cons.injEq, Prod.mk.injEq, AV.slc.injEq, and_true, true_and] at h
 obtain ⟨⟨h1, h2⟩, h3, h4⟩ := h
 rw [h1, map_inj (fs := Wait_tfs) rfl h2, h3, map_inj (fs := Wait_tfs) rfl h4]
abbrev sww_id : Nat := 16
abbrev sww_sh : Shp := [none, none]
abbrev sww_fs : List Lf := [.fl true Wait_tfs, .fl true Wait_tfs]
abbrev sww_rsh : Shp := [none]
abbrev sww_rfs : List Lf := [.fb]
noncomputable def sww_r (a_x : Bool) (a : List Wait_T) (b_x : Bool) (b : List Wait_T) : Option Ret :=
 bK (!decide ((↑(mW a).length : Int) = (↑(mW b).length : Int))) (some (rt (.bool false))) (oK (swLw.dec (sf [(0, sl a_x a), (1, sl b_x b), (5, i6 0)] [])) fun (d0 : Bool × List Wait_T × Bool × List Wait_T) => bK (swQw d0.2.1 d0.2.2.2) (some (rt (.bool true))) (some (rt (.bool false))))
theorem sww_w (a_x : Bool) (a : List Wait_T) (b_x : Bool) (b : List Wait_T) : unitQ Try.prog cfg PKz swPw false 16 (groupA sww_sh (Tu.mk sww_fs ((a_x, a), (b_x, b)))) [] = sww_r a_x a b_x b := by kernel_rfl

def swSw : FS := ⟨sww_sh, sww_fs, sww_rsh, sww_rfs, fun d => d.1.2.length ≤ 100000, fun d => swQw d.1.2 d.2.2, none⟩
theorem sw_vw (a_x : Bool) (a : List Wait_T) (b_x : Bool) (b : List Wait_T) (h : swSw.pre ((a_x, a), (b_x, b))) : sww_r a_x a b_x b = some (swSw.ret ((a_x, a), (b_x, b))) := by
 have h' : a.length ≤ 100000 := h
 show _ = some (swSw.out (swQw a b))
 unfold sww_r
 simp only [List.length_map]
 refine bK_n (fun c1 => ?_) (fun c1 => ?_)
 ·have : swQw a b = false := decide_eq_false (by intro e; rw [e] at c1; exact c1 rfl)
  rw [this]; rfl
 ·refine oK_lpq (Q := (· = _)) swH_injw (a_x, a, b_x, b) ⟨h', by show b.length = a.length; omega⟩ ?_
  show bK (swQw a b) _ _ = _
  cases swQw a b <;> rfl
theorem swOw : ∀ d : Tu swSw.fs, swSw.pre d → CallOk Try.prog 16 (swSw.args d) [] (swSw.ret d)
 | ((a_x, a), (b_x, b)), h => CallOk.unit (fnOk PKz_ok 21) rfl swP_okw.loops (o := false) (by show 0 ≤ 1000; decide) ((sww_w a_x a b_x b).trans (sw_vw a_x a b_x b h))
theorem drbyw : Try.prog.bytesOf 25 = 32 := by kernel_rfl
theorem drfitw {n : Nat} (h : n ≤ 1000000) : bytesFit Try.prog 25 n = true := by
 simp only [bytesFit, drbyw, decide_eq_true_eq]; omega
def drh0w (x : Bool) (l : List Wait_T) (c : Int) (i : Int) : St := { fr := [(0, .slc x (l.map (mkV true Wait_tfs))), (1, .int .i64 c), (5, .slc true []), (6, .int .i64 i)], bs := [], df := [] }
def drh1w (x : Bool) (l acc : List Wait_T) (c : Int) (i : Int) : St := { fr := [(0, .slc x (l.map (mkV true Wait_tfs))), (1, .int .i64 c), (5, .sref 416 0 0 (acc.map (mkV true Wait_tfs)).length), (6, .int .i64 i)], bs := [(416, { v := 0, k := .row, fz := false, sz := 4, es := acc.map (mkV true Wait_tfs) })], df := [] }
noncomputable def drs0w (x : Bool) (l : List Wait_T) (c : Int) (i : Int) : Option (St ⊕ (Ex × St)) := stepK Try.prog cfg PKz LP0 55 0 (drh0w x l c i)
noncomputable def drs0w_r (x : Bool) (l : List Wait_T) (c : Int) (i : Int) : Option (St ⊕ Ex × St) :=
 bK (decide (i < (↑(mW l).length : Int))) (oK (elemAt true Wait_tfs (mW l) i) fun (d0 : Int × Int × Int × Int) => bK (!decide (d0.1 = c)) (oK (elemAt true Wait_tfs (mW l) i) fun (d1 : Int × Int × Int × Int) => some (.inl (sf [(0, sl x l), (1, i6 c), (5, .sref 416 0 0 1), (6, i6 (IntKind.i64.wrap (i + 1)))] [(416, { v := 0, k := .row, fz := false, sz := 4, es := [AV.agg [i6 d1.1, i6 d1.2.1, i6 d1.2.2.1, i6 d1.2.2.2]] })]))) (some (.inl (sf [(0, sl x l), (1, i6 c), (5, .slc true []), (6, i6 (IntKind.i64.wrap (i + 1)))] [])))) (some (.inr (.exit 0, (sf [(5, .slc true [])] []))))
theorem drs0w_w (x : Bool) (l : List Wait_T) (c : Int) (i : Int) : drs0w x l c i = drs0w_r x l c i := by kernel_rfl

noncomputable def drs1w (x : Bool) (l acc : List Wait_T) (c : Int) (i : Int) : Option (St ⊕ (Ex × St)) := stepK Try.prog cfg PKz LP0 55 0 (drh1w x l acc c i)
noncomputable def drs1w_r (x : Bool) (l : List Wait_T) (acc : List Wait_T) (c : Int) (i : Int) : Option (St ⊕ Ex × St) :=
 bK (decide (i < (↑(mW l).length : Int))) (oK (elemAt true Wait_tfs (mW l) i) fun (d0 : Int × Int × Int × Int) => bK (!decide (d0.1 = c)) (oK (elemAt true Wait_tfs (mW l) i) fun (d1 : Int × Int × Int × Int) => bK (decide (0 + (mW acc).length ≤ (mW acc).length)) (bK (decide (0 = 0 ∧ (mW acc).length = (mW acc).length) && bytesFit Try.prog 25 ((mW acc).length + 1)) (some (.inl (sf [(0, sl x l), (1, i6 c), (5, .sref 416 0 0 ((mW acc).length + 1)), (6, i6 (IntKind.i64.wrap (i + 1)))] [(416, { v := 0, k := .row, fz := false, sz := 4, es := List.take (mW acc).length (mW acc) ++ [AV.agg [i6 d1.1, i6 d1.2.1, i6 d1.2.2.1, i6 d1.2.2.2]] })]))) none) none) (some (.inl (sf [(0, sl x l), (1, i6 c), (5, .sref 416 0 0 (mW acc).length), (6, i6 (IntKind.i64.wrap (i + 1)))] [(416, (rw4 acc))]))))
 (some (.inr (.exit 0, (sf [(5, .sref 416 0 0 (mW acc).length)] [(416, (rw4 acc))]))))
theorem drs1w_w (x : Bool) (l : List Wait_T) (acc : List Wait_T) (c : Int) (i : Int) : drs1w x l acc c i = drs1w_r x l acc c i := by kernel_rfl

def drKw (d : Wait_T) (c : Int) : Bool := !decide (d.1 = c)
def drhhw (x : Bool) (l acc : List Wait_T) (c : Int) (i : Int) : St := if acc = [] then drh0w x l c i else drh1w x l acc c i
theorem drhh1w (x : Bool) (l acc : List Wait_T) (a : Wait_T) (c : Int) (i : Int) : drhhw x l (acc ++ [a]) c i = drh1w x l (acc ++ [a]) c i := by
 unfold drhhw
 rw [if_neg (by simp)]
def drEw (acc : List Wait_T) : St := if acc = [] then { fr := [(5, .slc true [])], bs := [], df := [] } else { fr := [(5, .sref 416 0 0 (acc.map (mkV true Wait_tfs)).length)], bs := [(416, { v := 0, k := .row, fz := false, sz := 4, es := acc.map (mkV true Wait_tfs) })], df := [] }
theorem drs0_ew (x : Bool) (l : List Wait_T) (c : Int) (i : Nat) (hi : i < l.length) (hl : l.length ≤ 100000) : drs0w x l c i = some (.inl (if drKw l[i] c = true then drh1w x l ([] ++ [l[i]]) c ((i + 1 : Nat) : Int) else drh0w x l c ((i + 1 : Nat) : Int))) := by
 refine (drs0w_w x l c i).trans ?_
 unfold drs0w_r
 refine bK_tq (Q := (· = _)) (by simp; omega) ?_
 have e1 : IntKind.i64.wrap ((i : Int) + 1) = ((i + 1 : Nat) : Int) := by rw [w64 (by omega) (by omega)]; omega
 have e2 : l.getD (i : Int).toNat (0, 0, 0, 0) = l[i] := by rw [Int.toNat_natCast, getD_at hi]
 rw [e1]
 have yes : drKw l[i] c = true → ∀ z : Option (St ⊕ (Ex × St)), z = some (.inl (drh1w x l ([] ++ [l[i]]) c ((i + 1 : Nat) : Int))) → z = some (.inl (if drKw l[i] c = true then drh1w x l ([] ++ [l[i]]) c ((i + 1 : Nat) : Int) else drh0w x l c ((i + 1 : Nat) : Int))) := fun h z hz => by rw [if_pos h]; exact hz
 have no : drKw l[i] c = false → ∀ z : Option (St ⊕ (Ex × St)), z = some (.inl (drh0w x l c ((i + 1 : Nat) : Int))) → z = some (.inl (if drKw l[i] c = true then drh1w x l ([] ++ [l[i]]) c ((i + 1 : Nat) : Int) else drh0w x l c ((i + 1 : Nat) : Int))) := fun h z hz => by rw [if_neg (by rw [h]; simp)]; exact hz

 refine oK_atq (Q := (· = _)) (fs := Wait_tfs) (0, 0, 0, 0) (by omega) (by simpa using hi) ?_
 rw [e2]
 refine bK_nq (Q := (· = _)) (fun hc => yes (by simp [drKw, hc]) _ ?_) (fun hc => no (by simp [drKw, hc]) _ rfl)
 refine oK_atq (Q := (· = _)) (fs := Wait_tfs) (0, 0, 0, 0) (by omega) (by simpa using hi) ?_
 rw [e2]
 rfl

theorem drs1_ew (x : Bool) (l acc : List Wait_T) (c : Int) (i : Nat) (hi : i < l.length) (hl : l.length ≤ 100000) (ha : acc.length ≤ i) : drs1w x l acc c i = some (.inl (if drKw l[i] c = true then drh1w x l (acc ++ [l[i]]) c ((i + 1 : Nat) : Int) else drh1w x l acc c ((i + 1 : Nat) : Int))) := by
 refine (drs1w_w x l acc c i).trans ?_
 unfold drs1w_r
 refine bK_tq (Q := (· = _)) (by simp; omega) ?_
 have e1 : IntKind.i64.wrap ((i : Int) + 1) = ((i + 1 : Nat) : Int) := by rw [w64 (by omega) (by omega)]; omega
 have e2 : l.getD (i : Int).toNat (0, 0, 0, 0) = l[i] := by rw [Int.toNat_natCast, getD_at hi]
 rw [e1]
 have yes : drKw l[i] c = true → ∀ z : Option (St ⊕ (Ex × St)), z = some (.inl (drh1w x l (acc ++ [l[i]]) c ((i + 1 : Nat) : Int))) → z = some (.inl (if drKw l[i] c = true then drh1w x l (acc ++ [l[i]]) c ((i + 1 : Nat) : Int) else drh1w x l acc c ((i + 1 : Nat) : Int))) := fun h z hz => by rw [if_pos h]; exact hz
 have no : drKw l[i] c = false → ∀ z : Option (St ⊕ (Ex × St)), z = some (.inl (drh1w x l acc c ((i + 1 : Nat) : Int))) → z = some (.inl (if drKw l[i] c = true then drh1w x l (acc ++ [l[i]]) c ((i + 1 : Nat) : Int) else drh1w x l acc c ((i + 1 : Nat) : Int))) := fun h z hz => by rw [if_neg (by rw [h]; simp)]; exact hz

 refine oK_atq (Q := (· = _)) (fs := Wait_tfs) (0, 0, 0, 0) (by omega) (by simpa using hi) ?_
 rw [e2]
 refine bK_nq (Q := (· = _)) (fun hc => yes (by simp [drKw, hc]) _ ?_) (fun hc => no (by simp [drKw, hc]) _ rfl)
 refine oK_atq (Q := (· = _)) (fs := Wait_tfs) (0, 0, 0, 0) (by omega) (by simpa using hi) ?_
 rw [e2]
 refine bK_tq (Q := (· = _)) (by simp) (bK_tq (Q := (· = _)) (by simp only [and_self, decide_true, Bool.true_and]; exact drfitw (by simp; omega)) ?_)
 rw [List.take_length]
 unfold drh1w
 simp only [List.map_append, List.length_append]
 rfl

theorem drlow : (loopsOf 0 (codeOf Try.prog 55)).map (·.1) = [0] := by kernel_rfl
theorem dronw : OneLoops Try.prog 55 := by unfold OneLoops; rw [drlow]; decide
theorem dratw : At 0 (codeOf Try.prog 55) 0 (.loop (bodyAt Try.prog 55 0)) := at_body dronw (by rw [drlow]; decide)
theorem drr1w (x : Bool) (l : List Wait_T) (c : Int) (hl : l.length ≤ 100000) : ∀ (k i : Nat), i + k = l.length → ∀ (acc : List Wait_T), acc ≠ [] → acc.length ≤ i → ∀ (m : Nat), k < m →
  Runs' Try.prog cfg PKz 55 0 m (drh1w x l acc c i) (.exit 0, drEw (acc ++ (l.drop i).filter fun w => drKw w c))
 | 0, i, hi, acc, hne, ha, m + 1, hm => by
  rw [List.drop_of_length_le (by omega)]
  refine Runs'.done (lp := LP0) LPok.none dratw ((drs1w_w x l acc c i).trans ?_)
  unfold drs1w_r
  rw [bK_neg (by simp; omega)]
  simp only [List.filter_nil, List.append_nil]
  unfold drEw
  rw [if_neg hne]
 | k + 1, i, hi, acc, hne, ha, m + 1, hm => by
  have hi' : i < l.length := by omega
  have e : l.drop i = l[i] :: l.drop (i + 1) := List.drop_eq_getElem_cons hi'
  have hs := drs1_ew x l acc c i hi' hl ha
  rw [e, List.filter_cons]
  by_cases hk : drKw l[i] c = true
  ·rw [if_pos hk] at hs ⊢
   have := drr1w x l c hl k (i + 1) (by omega) (acc ++ [l[i]]) (by simp) (by simp; omega) m (by omega)
   rw [List.append_assoc] at this
   exact Runs'.step (lp := LP0) LPok.none dratw hs this
  ·rw [if_neg hk] at hs ⊢
   exact Runs'.step (lp := LP0) LPok.none dratw hs (drr1w x l c hl k (i + 1) (by omega) acc hne (by omega) m (by omega))
theorem drr0w (x : Bool) (l : List Wait_T) (c : Int) (hl : l.length ≤ 100000) : ∀ (k i : Nat), i + k = l.length → ∀ (m : Nat), k < m →
  Runs' Try.prog cfg PKz 55 0 m (drh0w x l c i) (.exit 0, drEw ((l.drop i).filter fun w => drKw w c))
 | 0, i, hi, m + 1, hm => by
  rw [List.drop_of_length_le (by omega)]
  refine Runs'.done (lp := LP0) LPok.none dratw ((drs0w_w x l c i).trans ?_)
  unfold drs0w_r
  rw [bK_neg (by simp; omega)]
  rfl
 | k + 1, i, hi, m + 1, hm => by
  have hi' : i < l.length := by omega
  have e : l.drop i = l[i] :: l.drop (i + 1) := List.drop_eq_getElem_cons hi'
  have hs := drs0_ew x l c i hi' hl
  rw [e, List.filter_cons]
  by_cases hk : drKw l[i] c = true
  ·rw [if_pos hk] at hs ⊢
   exact Runs'.step (lp := LP0) LPok.none dratw hs (drr1w x l c hl k (i + 1) (by omega) [l[i]] (by simp) (by simp only [List.length_cons, List.length_nil]; omega) m (by omega))
  ·rw [if_neg hk] at hs ⊢
   exact Runs'.step (lp := LP0) LPok.none dratw hs (drr0w x l c hl k (i + 1) (by omega) m (by omega))
abbrev drDw : Type := (Bool × List Wait_T) × Int
def drFw (d : drDw) : List Wait_T := let c := d.2; d.1.2.filter fun w => drKw w c
def drHw (d : drDw) : St := let c := d.2; drh0w d.1.1 d.1.2 c 0
theorem drH_injw (d d' : drDw) (h : drHw d = drHw d') : d = d' := by
 obtain ⟨⟨x, l⟩, c⟩ := d
 obtain ⟨⟨x', l'⟩, c'⟩ := d'
 simp only [drHw, drh0w, St.mk.injEq, List.cons.injEq, Prod.mk.injEq, AV.slc.injEq, AV.int.injEq, and_true, true_and] at h
 have e1 := map_inj (fs := Wait_tfs) rfl h.1.2
 rw [h.1.1, e1]
 simp [h.2]
noncomputable def drLw : LP := LP.of drHw (fun d => d.1.2.length ≤ 100000) fun d => .ite (drFw d).isEmpty (.leaf (.exit 0, { fr := [(5, .slc true [])], bs := [], df := [] })) (.leaf (.exit 0, { fr := [(5, .sref 416 0 0 ((drFw d).map (mkV true Wait_tfs)).length)], bs := [(416, { v := 0, k := .row, fz := false, sz := 4, es := (drFw d).map (mkV true Wait_tfs) })], df := [] }))
noncomputable def drPw : LPs := LPs.add LP0 55 0 drLw
theorem drP_okw : LPok Try.prog cfg PKz drPw 55 := LPok.addH LPok.none dronw (by
 rintro ⟨⟨x, l⟩, c⟩ h
 have h2 : l.length ≤ 100000 := h
 have := drr0w x l c h2 l.length 0 (by omega) rounds (by simp only [rounds]; omega)
 rw [List.drop_zero] at this
 have e : drFw ((x, l), c) = l.filter fun w => drKw w c := rfl
 rw [← e] at this
 unfold drEw at this
 simp only [Alt.val]
 by_cases hq : drFw ((x, l), c) = []
 ·rw [if_pos hq] at this
  rw [hq]; exact this
 ·rw [if_neg hq] at this
  have : (drFw ((x, l), c)).isEmpty = false := by simpa using hq
  rw [this]; assumption)
abbrev dropRw_id : Nat := 55
abbrev dropRw_sh : Shp := [none, none]
abbrev dropRw_fs : List Lf := [.fl true Wait_tfs, .fi .i64]
abbrev dropRw_rsh : Shp := [none]
abbrev dropRw_rfs : List Lf := [.fl true Wait_tfs]
noncomputable def dropRw_r (l_x : Bool) (l : List Wait_T) (client : Int) : Option Ret :=
 oK (drLw.dec (sf [(0, sl l_x l), (1, i6 client), (5, .slc true []), (6, i6 0)] [])) fun (d0 : LW × Int) => bK (drFw d0).isEmpty (some (rt (.slc true []))) (bK (decide (0 + (mW (drFw d0)).length ≤ (mW (drFw d0)).length)) (some (rt (.slc false (List.take (mW (drFw d0)).length (List.drop 0 (mW (drFw d0))))))) none)
theorem dropRw_w (l_x : Bool) (l : List Wait_T) (client : Int) : unitQ Try.prog cfg PKz drPw false 55 (groupA dropRw_sh (Tu.mk dropRw_fs ((l_x, l), client))) [] = dropRw_r l_x l client := by kernel_rfl

def dropFw (l : List Wait_T) (c : Int) : List Wait_T := l.filter fun w => !decide (w.1 = c)
theorem dropF_lew (l : List Wait_T) (c : Int) : (dropFw l c).length ≤ l.length := List.length_filter_le _ _
def dropRSw : FS := ⟨dropRw_sh, dropRw_fs, dropRw_rsh, dropRw_rfs, fun d => d.1.2.length ≤ 100000, fun d => ((dropFw d.1.2 d.2).isEmpty, dropFw d.1.2 d.2), none⟩
theorem dropR_vw (l_x : Bool) (l : List Wait_T) (client : Int) (h : dropRSw.pre ((l_x, l), client)) : dropRw_r l_x l client = some (dropRSw.ret ((l_x, l), client)) := by
 have h' : l.length ≤ 100000 := h
 show _ = some (dropRSw.out ((dropFw l client).isEmpty, dropFw l client))
 unfold dropRw_r
 refine oK_lpq (Q := (· = _)) drH_injw ((l_x, l), client) h' ?_
 have e : drFw ((l_x, l), client) = dropFw l client := rfl
 rw [e]
 cases hd : dropFw l client with
 | nil => rfl
 | cons a r =>
  refine bK_fq (Q := (· = _)) rfl (bK_tq (Q := (· = _)) (by simp) ?_)
  rw [List.drop_zero, List.take_length]
  rfl
theorem dropROw : ∀ d : Tu dropRSw.fs, dropRSw.pre d → CallOk Try.prog 55 (dropRSw.args d) [] (dropRSw.ret d)
 | ((l_x, l), client), h => CallOk.unit (fnOk PKz_ok 21) rfl drP_okw.loops (o := false) (by show 0 ≤ 1000; decide) ((dropRw_w l_x l client).trans (dropR_vw l_x l client h))
def dropSw : FS := ⟨dropw_sh, dropw_fs, dropw_rsh, dropw_rfs, fun d => d.1.2.length ≤ 100000, fun d => (d.1.2.isEmpty, dropFw d.1.2 d.2), none⟩
theorem dropOw : ∀ d : Tu dropSw.fs, dropSw.pre d → CallOk Try.prog 50 (dropSw.args d) [] (dropSw.ret d) := by
 rintro ⟨⟨x, l⟩, c⟩ h
 have h' : l.length ≤ 100000 := h
 cases l with
 | nil => exact CallOk.unit (fnOk PKs0_ok 21) rfl fLoops_none (o := false) (by show 0 ≤ 1000; decide) (drop0w_w x c)
 | cons a r =>
  generalize hl : a :: r = l at h'
  have h1 : 1 ≤ l.length := by rw [← hl]; simp
  have he : l.isEmpty = false := by rw [← hl]; rfl
  refine CallOk.unit (fnOk PKd_okw 21) rfl fLoops_none (o := false) (by show 0 ≤ 1000; decide) ((dropw_w x l c).trans ?_)
  show _ = some (dropSw.out (l.isEmpty, dropFw l c))
  rw [he]
  unfold dropw_r
  refine oK_pkq (Q := (· = _)) cl_injw (x, l) ⟨h1, h'⟩ ?_
  refine oK_pkq (Q := (· = _)) dcDA_injw (l, c) ⟨h1, h'⟩ ?_
  have ek : dckFw (l, c) = dropFw l c := rfl
  have ez : (dckZw (l, c)).take (dropFw l c).length = dropFw l c := keepZ_take _ _ _
  have el : (dckZw (l, c)).length = l.length := keepZ_len _ _ _
  have := dropF_lew l c
  rw [ek]
  refine bK_tq (Q := (· = _)) (by simp; omega) ?_
  rw [List.drop_zero, ← List.map_take, ez]
  rfl
def placeFw (l : List Wait_T) (c : Int) : Int := firstN (fun w => decide (w.1 = c)) l 0
def placeQw (l : List Wait_T) (c : Int) : Int := placeFw l c
noncomputable def placeSw : FS := ⟨placew_sh, placew_fs, placew_rsh, placew_rfs, fun d => d.1.2.length ≤ 100000, fun d => placeQw d.1.2 d.2, none⟩
theorem placeOw : ∀ d : Tu placeSw.fs, placeSw.pre d → CallOk Try.prog 56 (placeSw.args d) [] (placeSw.ret d) := by
 rintro ⟨⟨x, l⟩, c⟩ h
 refine CallOk.unit (fnOk PKp_okw 21) rfl fLoops_none (o := false) (by show 0 ≤ 1000; decide) ((placew_w x l c).trans ?_)
 unfold placew_r
 exact oK_pkq (Q := (· = _)) plXA_injw ((x, l), c) h rfl

end Go.Proofs.Ytkanmigbbpppnaa
