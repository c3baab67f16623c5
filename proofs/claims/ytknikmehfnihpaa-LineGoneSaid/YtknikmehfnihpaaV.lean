/- A part of the proof: contracts of functions. -/
import Derived.Test.YtknikmehfnihpaaX
import Derived.Test.YtknikmehfnihpaaAbAny

set_option linter.unusedVariables false
set_option linter.unusedSimpArgs false
set_option maxRecDepth 100000
namespace Go.Proofs.Ytknikmehfnihpaa
open Go Go.Ab
def swh (x : Bool) (a : List Wait_T) (y : Bool) (b : List Wait_T) (i : Int) : St := { fr := [(0, .slc x (a.map (mkV true Wait_tfs))), (1, .slc y (b.map (mkV true Wait_tfs))), (5, .int .i64 i)], bs := [], df := [] }
noncomputable def sws (x : Bool) (a : List Wait_T) (y : Bool) (b : List Wait_T) (i : Int) : Option (St ⊕ (Ex × St)) := stepK Try.prog cfg PKz LP0 12 0 (swh x a y b i)
noncomputable def sws_r (x : Bool) (a : List Wait_T) (y : Bool) (b : List Wait_T) (i : Int) : Option (St ⊕ Ex × St) :=
  bK (decide (i < (↑(List.map (mkV true Wait_tfs) a).length : Int))) (oK (elemAt true Wait_tfs (List.map (mkV true Wait_tfs) a) i) fun (d0 : Int × Int × Int × Int) => oK (elemAt true Wait_tfs (List.map (mkV true Wait_tfs) b) i) fun (d1 : Int × Int × Int × Int) => bK (!(decide (d0.fst = d1.fst) && (decide (d0.snd.fst = d1.snd.fst) && (decide (d0.snd.snd.fst = d1.snd.snd.fst) && (decide (d0.snd.snd.snd = d1.snd.snd.snd) && true))))) (some (Sum.inr (Ex.ret, { fr := [(4, AV.bool false)], bs := [], df := [] }))) (some (Sum.inl { fr := [(0, AV.slc x (List.map (mkV true Wait_tfs) a)), (1, AV.slc y (List.map (mkV true Wait_tfs) b)), (5, AV.int IntKind.i64 (IntKind.i64.wrap (i + 1)))], bs := [], df := [] }))) (some (Sum.inr (Ex.exit 0, { fr := [], bs := [], df := [] })))
theorem sws_w (x : Bool) (a : List Wait_T) (y : Bool) (b : List Wait_T) (i : Int) : sws x a y b i = sws_r x a y b i := by kernel_rfl

def swe : St := { fr := [], bs := [], df := [] }
def swn : St := { fr := [(4, .bool false)], bs := [], df := [] }
theorem swlo : (loopsOf 0 (codeOf Try.prog 12)).map (·.1) = [0] := by kernel_rfl
theorem swon : OneLoops Try.prog 12 := by unfold OneLoops; rw [swlo]; decide
theorem swat : At 0 (codeOf Try.prog 12) 0 (.loop (bodyAt Try.prog 12 0)) := at_body swon (by rw [swlo]; decide)
def swx (e : Bool) : Ex × St := if e then (.exit 0, swe) else (.ret, swn)
theorem swrun (x : Bool) (a : List Wait_T) (y : Bool) (b : List Wait_T) (hl : a.length ≤ 100000) (hb : b.length = a.length) : ∀ (k i : Nat), i + k = a.length → ∀ (m : Nat), k < m →
    Runs' Try.prog cfg PKz 12 0 m (swh x a y b i) (swx (decide (a.drop i = b.drop i)))
  | 0, i, hi, m + 1, hm => by
    refine Runs'.done (lp := LP0) LPok.none swat ((sws_w x a y b i).trans ?_)
    unfold sws_r
    rw [bK_neg (by simp; omega), List.drop_of_length_le (show a.length ≤ i by omega), List.drop_of_length_le (show b.length ≤ i by omega), decide_eq_true rfl]
    rfl
  | k + 1, i, hi, m + 1, hm => by
    have ha : i < a.length := by omega
    have hb' : i < b.length := by omega
    have hs : sws x a y b i = (if a.getD i (0, 0, 0, 0) = b.getD i (0, 0, 0, 0) then some (.inl (swh x a y b ((i + 1 : Nat) : Int))) else some (.inr (.ret, swn))) := by
      refine (sws_w x a y b i).trans ?_
      unfold sws_r
      refine bK_tq (Q := fun z => z = _) (by simp; omega) ?_
      refine oK_atq (Q := fun z => z = _) (fs := Wait_tfs) (0, 0, 0, 0) (by omega) (by simpa using ha) ?_
      refine oK_atq (Q := fun z => z = _) (fs := Wait_tfs) (0, 0, 0, 0) (by omega) (by simpa using hb') ?_
      rw [Int.toNat_natCast]
      generalize a.getD i (0, 0, 0, 0) = p
      generalize b.getD i (0, 0, 0, 0) = q
      rw [w64 (by omega) (by omega)]
      by_cases e : p = q
      · rw [if_pos e]
        subst e
        rw [bK_neg (by simp)]
        rfl
      · rw [if_neg e, bK_pos (by rw [Bool.not_eq_true']; refine Bool.eq_false_iff.2 fun hh => e ?_; simpa [Prod.ext_iff] using hh)]
        rfl
    have ea : a.drop i = a.getD i (0, 0, 0, 0) :: a.drop (i + 1) := by rw [List.drop_eq_getElem_cons ha, getD_at ha]
    have eb : b.drop i = b.getD i (0, 0, 0, 0) :: b.drop (i + 1) := by rw [List.drop_eq_getElem_cons hb', getD_at hb']
    by_cases e : a.getD i (0, 0, 0, 0) = b.getD i (0, 0, 0, 0)
    · rw [if_pos e] at hs
      have : decide (a.drop i = b.drop i) = decide (a.drop (i + 1) = b.drop (i + 1)) := by
        rw [ea, eb, e]; simp
      rw [this]
      exact Runs'.step (lp := LP0) LPok.none swat hs (swrun x a y b hl hb k (i + 1) (by omega) m (by omega))
    · rw [if_neg e] at hs
      have : decide (a.drop i = b.drop i) = false := by
        rw [ea, eb]; exact decide_eq_false (fun h => e (List.cons.inj h).1)
      rw [this]
      exact Runs'.done (lp := LP0) LPok.none swat hs
abbrev swD : Type := Bool × List Wait_T × Bool × List Wait_T
def swH (d : swD) : St := swh d.1 d.2.1 d.2.2.1 d.2.2.2 0
/-- Alike. -/
def swQ (a b : List Wait_T) : Bool := decide (a = b)
noncomputable def swL : LP := LP.of (D := swD) swH (fun d => d.2.1.length ≤ 100000 ∧ d.2.2.2.length = d.2.1.length) fun d => .ite (swQ d.2.1 d.2.2.2) (.leaf (.exit 0, swe)) (.leaf (.ret, swn))
noncomputable def swP : LPs := LPs.add LP0 12 0 swL
theorem swP_ok : LPok Try.prog cfg PKz swP 12 :=
  LPok.addH LPok.none swon fun d h => by
    have := swrun d.1 d.2.1 d.2.2.1 d.2.2.2 h.1 h.2 d.2.1.length 0 (by omega) rounds (by have : d.2.1.length ≤ 100000 := h.1; simp only [rounds]; omega)
    simp only [List.drop_zero] at this
    refine cast ?_ this
    congr 1
theorem swH_inj (d d' : swD) (h : swH d = swH d') : d = d' := by
  obtain ⟨x, a, y, b⟩ := d
  obtain ⟨x', a', y', b'⟩ := d'
  simp only [swH, swh, St.mk.injEq, List.cons.injEq, Prod.mk.injEq, AV.slc.injEq, and_true, true_and] at h
  obtain ⟨⟨h1, h2⟩, h3, h4⟩ := h
  rw [h1, map_inj (fs := Wait_tfs) rfl h2, h3, map_inj (fs := Wait_tfs) rfl h4]
abbrev sw_id : Nat := 12
abbrev sw_sh : Shp := [none, none]
abbrev sw_fs : List Lf := [.fl true Wait_tfs, .fl true Wait_tfs]
abbrev sw_rsh : Shp := [none]
abbrev sw_rfs : List Lf := [.fb]
noncomputable def sw_r (a_x : Bool) (a : List Wait_T) (b_x : Bool) (b : List Wait_T) : Option Ret :=
  bK (!decide ((↑(List.map (mkV true Wait_tfs) a).length : Int) = (↑(List.map (mkV true Wait_tfs) b).length : Int))) (some { pan := false, res := AV.bool false, out := [], new := [] }) (oK (swL.dec { fr := [(0, AV.slc a_x (List.map (mkV true Wait_tfs) a)), (1, AV.slc b_x (List.map (mkV true Wait_tfs) b)), (5, AV.int IntKind.i64 0)], bs := [], df := [] }) fun (d0 : Bool × List (Int × Int × Int × Int) × Bool × List (Int × Int × Int × Int)) => bK (swQ d0.snd.fst d0.snd.snd.snd) (some { pan := false, res := AV.bool true, out := [], new := [] }) (some { pan := false, res := AV.bool false, out := [], new := [] }))
theorem sw_w (a_x : Bool) (a : List Wait_T) (b_x : Bool) (b : List Wait_T) : unitQ Try.prog cfg PKz swP false 12 (groupA sw_sh (Tu.mk sw_fs ((a_x, a), (b_x, b)))) [] = sw_r a_x a b_x b := by kernel_rfl

def swS : FS := ⟨sw_sh, sw_fs, sw_rsh, sw_rfs, fun d => d.1.2.length ≤ 100000, fun d => swQ d.1.2 d.2.2, none⟩
theorem sw_v (a_x : Bool) (a : List Wait_T) (b_x : Bool) (b : List Wait_T) (h : swS.pre ((a_x, a), (b_x, b))) : sw_r a_x a b_x b = some (swS.ret ((a_x, a), (b_x, b))) := by
  have h' : a.length ≤ 100000 := h
  show _ = some (swS.out (swQ a b))
  unfold sw_r
  simp only [List.length_map]
  refine bK_n (fun c1 => ?_) (fun c1 => ?_)
  · have : swQ a b = false := decide_eq_false (by intro e; rw [e] at c1; exact c1 rfl)
    rw [this]; rfl
  · refine oK_lpq (Q := fun z => z = _) swH_inj (a_x, a, b_x, b) ⟨h', by show b.length = a.length; omega⟩ ?_
    show bK (swQ a b) _ _ = _
    cases swQ a b <;> rfl
theorem swO : ∀ d : Tu swS.fs, swS.pre d → CallOk Try.prog 12 (swS.args d) [] (swS.ret d)
  | ((a_x, a), (b_x, b)), h => CallOk.unit (fnOk PKz_ok 21) rfl swP_ok.loops (o := false) (by show 0 ≤ 1000; decide) ((sw_w a_x a b_x b).trans (sw_v a_x a b_x b h))
theorem drby : Try.prog.bytesOf 24 = 32 := by kernel_rfl
theorem drfit {n : Nat} (h : n ≤ 1000000) : bytesFit Try.prog 24 n = true := by
  simp only [bytesFit, drby, decide_eq_true_eq]; omega
def drh0 (x : Bool) (l : List Wait_T) (c : Int) (i : Int) : St := { fr := [(0, .slc x (l.map (mkV true Wait_tfs))), (1, .int .i64 c), (5, .slc true []), (6, .int .i64 i)], bs := [], df := [] }
def drh1 (x : Bool) (l acc : List Wait_T) (c : Int) (i : Int) : St := { fr := [(0, .slc x (l.map (mkV true Wait_tfs))), (1, .int .i64 c), (5, .sref 416 0 0 (acc.map (mkV true Wait_tfs)).length), (6, .int .i64 i)], bs := [(416, { v := 0, k := .row, fz := false, sz := 4, es := acc.map (mkV true Wait_tfs) })], df := [] }
noncomputable def drs0 (x : Bool) (l : List Wait_T) (c : Int) (i : Int) : Option (St ⊕ (Ex × St)) := stepK Try.prog cfg PKz LP0 11 0 (drh0 x l c i)
noncomputable def drs0_r (x : Bool) (l : List Wait_T) (c : Int) (i : Int) : Option (St ⊕ Ex × St) :=
  bK (decide (i < (↑(List.map (mkV true Wait_tfs) l).length : Int))) (oK (elemAt true Wait_tfs (List.map (mkV true Wait_tfs) l) i) fun (d0 : Int × Int × Int × Int) => bK (!decide (d0.fst = c)) (oK (elemAt true Wait_tfs (List.map (mkV true Wait_tfs) l) i) fun (d1 : Int × Int × Int × Int) => some (Sum.inl { fr := [(0, AV.slc x (List.map (mkV true Wait_tfs) l)), (1, AV.int IntKind.i64 c), (5, AV.sref 416 0 0 1), (6, AV.int IntKind.i64 (IntKind.i64.wrap (i + 1)))], bs := [(416, { v := 0, k := BK.row, fz := false, sz := 4, es := [AV.agg [AV.int IntKind.i64 d1.fst, AV.int IntKind.i64 d1.snd.fst, AV.int IntKind.i64 d1.snd.snd.fst, AV.int IntKind.i64 d1.snd.snd.snd]] })], df := [] })) (some (Sum.inl { fr := [(0, AV.slc x (List.map (mkV true Wait_tfs) l)), (1, AV.int IntKind.i64 c), (5, AV.slc true []), (6, AV.int IntKind.i64 (IntKind.i64.wrap (i + 1)))], bs := [], df := [] }))) (some (Sum.inr (Ex.exit 0, { fr := [(5, AV.slc true [])], bs := [], df := [] })))
theorem drs0_w (x : Bool) (l : List Wait_T) (c : Int) (i : Int) : drs0 x l c i = drs0_r x l c i := by kernel_rfl

noncomputable def drs1 (x : Bool) (l acc : List Wait_T) (c : Int) (i : Int) : Option (St ⊕ (Ex × St)) := stepK Try.prog cfg PKz LP0 11 0 (drh1 x l acc c i)
noncomputable def drs1_r (x : Bool) (l : List Wait_T) (acc : List Wait_T) (c : Int) (i : Int) : Option (St ⊕ Ex × St) :=
  bK (decide (i < (↑(List.map (mkV true Wait_tfs) l).length : Int)))
  (oK (elemAt true Wait_tfs (List.map (mkV true Wait_tfs) l) i) fun (d0 : Int × Int × Int × Int) =>
    bK (!decide (d0.fst = c))
      (oK (elemAt true Wait_tfs (List.map (mkV true Wait_tfs) l) i) fun (d1 : Int × Int × Int × Int) =>
        bK (decide (0 + (List.map (mkV true Wait_tfs) acc).length ≤ (List.map (mkV true Wait_tfs) acc).length))
          (bK (decide (0 = 0 ∧ (List.map (mkV true Wait_tfs) acc).length = (List.map (mkV true Wait_tfs) acc).length) && bytesFit Try.prog 24 ((List.map (mkV true Wait_tfs) acc).length + 1)) (some (Sum.inl { fr := [(0, AV.slc x (List.map (mkV true Wait_tfs) l)), (1, AV.int IntKind.i64 c), (5, AV.sref 416 0 0 ((List.map (mkV true Wait_tfs) acc).length + 1)), (6, AV.int IntKind.i64 (IntKind.i64.wrap (i + 1)))], bs := [(416, { v := 0, k := BK.row, fz := false, sz := 4, es := List.take (List.map (mkV true Wait_tfs) acc).length (List.map (mkV true Wait_tfs) acc) ++ [AV.agg [AV.int IntKind.i64 d1.fst, AV.int IntKind.i64 d1.snd.fst, AV.int IntKind.i64 d1.snd.snd.fst, AV.int IntKind.i64 d1.snd.snd.snd]] })], df := [] }))
            (bK (decide (0 + (List.map (mkV true Wait_tfs) acc).length + 1 ≤ (List.map (mkV true Wait_tfs) acc).length)) (some (Sum.inl { fr := [(0, AV.slc x (List.map (mkV true Wait_tfs) l)), (1, AV.int IntKind.i64 c), (5, AV.sref 416 0 0 ((List.map (mkV true Wait_tfs) acc).length + 1)), (6, AV.int IntKind.i64 (IntKind.i64.wrap (i + 1)))], bs := [(416, { v := 0, k := BK.row, fz := false, sz := 4, es := List.take (0 + (List.map (mkV true Wait_tfs) acc).length) (List.map (mkV true Wait_tfs) acc) ++ AV.agg [AV.int IntKind.i64 d1.fst, AV.int IntKind.i64 d1.snd.fst, AV.int IntKind.i64 d1.snd.snd.fst, AV.int IntKind.i64 d1.snd.snd.snd] :: List.append._f [] PUnit.unit (List.drop (0 + (List.map (mkV true Wait_tfs) acc).length + 1) (List.map (mkV true Wait_tfs) acc)) })], df := [] })) none))
          none)
      (some (Sum.inl { fr := [(0, AV.slc x (List.map (mkV true Wait_tfs) l)), (1, AV.int IntKind.i64 c), (5, AV.sref 416 0 0 (List.map (mkV true Wait_tfs) acc).length), (6, AV.int IntKind.i64 (IntKind.i64.wrap (i + 1)))], bs := [(416, { v := 0, k := BK.row, fz := false, sz := 4, es := List.map (mkV true Wait_tfs) acc })], df := [] })))
  (some (Sum.inr (Ex.exit 0, { fr := [(5, AV.sref 416 0 0 (List.map (mkV true Wait_tfs) acc).length)], bs := [(416, { v := 0, k := BK.row, fz := false, sz := 4, es := List.map (mkV true Wait_tfs) acc })], df := [] })))
theorem drs1_w (x : Bool) (l : List Wait_T) (acc : List Wait_T) (c : Int) (i : Int) : drs1 x l acc c i = drs1_r x l acc c i := by kernel_rfl

/-- Is it kept? -/
def drK (d : Wait_T) (c : Int) : Bool := !decide (d.1 = c)
def drhh (x : Bool) (l acc : List Wait_T) (c : Int) (i : Int) : St := if acc = [] then drh0 x l c i else drh1 x l acc c i
theorem drhh1 (x : Bool) (l acc : List Wait_T) (a : Wait_T) (c : Int) (i : Int) : drhh x l (acc ++ [a]) c i = drh1 x l (acc ++ [a]) c i := by
  unfold drhh
  rw [if_neg (by simp)]
def drE (acc : List Wait_T) : St := if acc = [] then { fr := [(5, .slc true [])], bs := [], df := [] } else { fr := [(5, .sref 416 0 0 (acc.map (mkV true Wait_tfs)).length)], bs := [(416, { v := 0, k := .row, fz := false, sz := 4, es := acc.map (mkV true Wait_tfs) })], df := [] }
theorem drs0_e (x : Bool) (l : List Wait_T) (c : Int) (i : Nat) (hi : i < l.length) (hl : l.length ≤ 100000) : drs0 x l c i = some (.inl (if drK l[i] c = true then drh1 x l ([] ++ [l[i]]) c ((i + 1 : Nat) : Int) else drh0 x l c ((i + 1 : Nat) : Int))) := by
  refine (drs0_w x l c i).trans ?_
  unfold drs0_r
  refine bK_tq (Q := fun z => z = _) (by simp; omega) ?_
  have e1 : IntKind.i64.wrap ((i : Int) + 1) = ((i + 1 : Nat) : Int) := by rw [w64 (by omega) (by omega)]; omega
  have e2 : l.getD (i : Int).toNat (0, 0, 0, 0) = l[i] := by rw [Int.toNat_natCast, getD_at hi]
  rw [e1]
  have yes : drK l[i] c = true → ∀ z : Option (St ⊕ (Ex × St)), z = some (.inl (drh1 x l ([] ++ [l[i]]) c ((i + 1 : Nat) : Int))) → z = some (.inl (if drK l[i] c = true then drh1 x l ([] ++ [l[i]]) c ((i + 1 : Nat) : Int) else drh0 x l c ((i + 1 : Nat) : Int))) := fun h z hz => by rw [if_pos h]; exact hz
  have no : drK l[i] c = false → ∀ z : Option (St ⊕ (Ex × St)), z = some (.inl (drh0 x l c ((i + 1 : Nat) : Int))) → z = some (.inl (if drK l[i] c = true then drh1 x l ([] ++ [l[i]]) c ((i + 1 : Nat) : Int) else drh0 x l c ((i + 1 : Nat) : Int))) := fun h z hz => by rw [if_neg (by rw [h]; simp)]; exact hz

  refine oK_atq (Q := fun z => z = _) (fs := Wait_tfs) (0, 0, 0, 0) (by omega) (by simpa using hi) ?_
  rw [e2]
  refine bK_nq (Q := fun z => z = _) (fun hc => yes (by simp [drK, hc]) _ ?_) (fun hc => no (by simp [drK, hc]) _ rfl)
  refine oK_atq (Q := fun z => z = _) (fs := Wait_tfs) (0, 0, 0, 0) (by omega) (by simpa using hi) ?_
  rw [e2]
  rfl

theorem drs1_e (x : Bool) (l acc : List Wait_T) (c : Int) (i : Nat) (hi : i < l.length) (hl : l.length ≤ 100000) (ha : acc.length ≤ i) : drs1 x l acc c i = some (.inl (if drK l[i] c = true then drh1 x l (acc ++ [l[i]]) c ((i + 1 : Nat) : Int) else drh1 x l acc c ((i + 1 : Nat) : Int))) := by
  refine (drs1_w x l acc c i).trans ?_
  unfold drs1_r
  refine bK_tq (Q := fun z => z = _) (by simp; omega) ?_
  have e1 : IntKind.i64.wrap ((i : Int) + 1) = ((i + 1 : Nat) : Int) := by rw [w64 (by omega) (by omega)]; omega
  have e2 : l.getD (i : Int).toNat (0, 0, 0, 0) = l[i] := by rw [Int.toNat_natCast, getD_at hi]
  rw [e1]
  have yes : drK l[i] c = true → ∀ z : Option (St ⊕ (Ex × St)), z = some (.inl (drh1 x l (acc ++ [l[i]]) c ((i + 1 : Nat) : Int))) → z = some (.inl (if drK l[i] c = true then drh1 x l (acc ++ [l[i]]) c ((i + 1 : Nat) : Int) else drh1 x l acc c ((i + 1 : Nat) : Int))) := fun h z hz => by rw [if_pos h]; exact hz
  have no : drK l[i] c = false → ∀ z : Option (St ⊕ (Ex × St)), z = some (.inl (drh1 x l acc c ((i + 1 : Nat) : Int))) → z = some (.inl (if drK l[i] c = true then drh1 x l (acc ++ [l[i]]) c ((i + 1 : Nat) : Int) else drh1 x l acc c ((i + 1 : Nat) : Int))) := fun h z hz => by rw [if_neg (by rw [h]; simp)]; exact hz

  refine oK_atq (Q := fun z => z = _) (fs := Wait_tfs) (0, 0, 0, 0) (by omega) (by simpa using hi) ?_
  rw [e2]
  refine bK_nq (Q := fun z => z = _) (fun hc => yes (by simp [drK, hc]) _ ?_) (fun hc => no (by simp [drK, hc]) _ rfl)
  refine oK_atq (Q := fun z => z = _) (fs := Wait_tfs) (0, 0, 0, 0) (by omega) (by simpa using hi) ?_
  rw [e2]
  refine bK_tq (Q := fun z => z = _) (by simp) (bK_tq (Q := fun z => z = _) (by simp only [and_self, decide_true, Bool.true_and]; exact drfit (by simp; omega)) ?_)
  rw [List.take_length]
  unfold drh1
  simp only [List.map_append, List.length_append]
  rfl

theorem drlo : (loopsOf 0 (codeOf Try.prog 11)).map (·.1) = [0] := by kernel_rfl
theorem dron : OneLoops Try.prog 11 := by unfold OneLoops; rw [drlo]; decide
theorem drat : At 0 (codeOf Try.prog 11) 0 (.loop (bodyAt Try.prog 11 0)) := at_body dron (by rw [drlo]; decide)
theorem drr1 (x : Bool) (l : List Wait_T) (c : Int) (hl : l.length ≤ 100000) : ∀ (k i : Nat), i + k = l.length → ∀ (acc : List Wait_T), acc ≠ [] → acc.length ≤ i → ∀ (m : Nat), k < m →
    Runs' Try.prog cfg PKz 11 0 m (drh1 x l acc c i) (.exit 0, drE (acc ++ (l.drop i).filter fun w => drK w c))
  | 0, i, hi, acc, hne, ha, m + 1, hm => by
    rw [List.drop_of_length_le (by omega)]
    refine Runs'.done (lp := LP0) LPok.none drat ((drs1_w x l acc c i).trans ?_)
    unfold drs1_r
    rw [bK_neg (by simp; omega)]
    simp only [List.filter_nil, List.append_nil]
    unfold drE
    rw [if_neg hne]
  | k + 1, i, hi, acc, hne, ha, m + 1, hm => by
    have hi' : i < l.length := by omega
    have e : l.drop i = l[i] :: l.drop (i + 1) := List.drop_eq_getElem_cons hi'
    have hs := drs1_e x l acc c i hi' hl ha
    rw [e, List.filter_cons]
    by_cases hk : drK l[i] c = true
    · rw [if_pos hk] at hs ⊢
      have := drr1 x l c hl k (i + 1) (by omega) (acc ++ [l[i]]) (by simp) (by simp; omega) m (by omega)
      rw [List.append_assoc] at this
      exact Runs'.step (lp := LP0) LPok.none drat hs this
    · rw [if_neg hk] at hs ⊢
      exact Runs'.step (lp := LP0) LPok.none drat hs (drr1 x l c hl k (i + 1) (by omega) acc hne (by omega) m (by omega))
theorem drr0 (x : Bool) (l : List Wait_T) (c : Int) (hl : l.length ≤ 100000) : ∀ (k i : Nat), i + k = l.length → ∀ (m : Nat), k < m →
    Runs' Try.prog cfg PKz 11 0 m (drh0 x l c i) (.exit 0, drE ((l.drop i).filter fun w => drK w c))
  | 0, i, hi, m + 1, hm => by
    rw [List.drop_of_length_le (by omega)]
    refine Runs'.done (lp := LP0) LPok.none drat ((drs0_w x l c i).trans ?_)
    unfold drs0_r
    rw [bK_neg (by simp; omega)]
    rfl
  | k + 1, i, hi, m + 1, hm => by
    have hi' : i < l.length := by omega
    have e : l.drop i = l[i] :: l.drop (i + 1) := List.drop_eq_getElem_cons hi'
    have hs := drs0_e x l c i hi' hl
    rw [e, List.filter_cons]
    by_cases hk : drK l[i] c = true
    · rw [if_pos hk] at hs ⊢
      exact Runs'.step (lp := LP0) LPok.none drat hs (drr1 x l c hl k (i + 1) (by omega) [l[i]] (by simp) (by simp only [List.length_cons, List.length_nil]; omega) m (by omega))
    · rw [if_neg hk] at hs ⊢
      exact Runs'.step (lp := LP0) LPok.none drat hs (drr0 x l c hl k (i + 1) (by omega) m (by omega))
abbrev drD : Type := (Bool × List Wait_T) × Int
/-- What is kept. -/
def drF (d : drD) : List Wait_T := let c := d.2; d.1.2.filter fun w => drK w c
def drH (d : drD) : St := let c := d.2; drh0 d.1.1 d.1.2 c 0
theorem drH_inj (d d' : drD) (h : drH d = drH d') : d = d' := by
  obtain ⟨⟨x, l⟩, c⟩ := d
  obtain ⟨⟨x', l'⟩, c'⟩ := d'
  simp only [drH, drh0, St.mk.injEq, List.cons.injEq, Prod.mk.injEq, AV.slc.injEq, AV.int.injEq, and_true, true_and] at h
  have e1 := map_inj (fs := Wait_tfs) rfl h.1.2
  rw [h.1.1, e1]
  simp [h.2]
noncomputable def drL : LP := LP.of drH (fun d => d.1.2.length ≤ 100000) fun d => .ite (drF d).isEmpty (.leaf (.exit 0, { fr := [(5, .slc true [])], bs := [], df := [] })) (.leaf (.exit 0, { fr := [(5, .sref 416 0 0 ((drF d).map (mkV true Wait_tfs)).length)], bs := [(416, { v := 0, k := .row, fz := false, sz := 4, es := (drF d).map (mkV true Wait_tfs) })], df := [] }))
noncomputable def drP : LPs := LPs.add LP0 11 0 drL
theorem drP_ok : LPok Try.prog cfg PKz drP 11 := LPok.addH LPok.none dron (by
  rintro ⟨⟨x, l⟩, c⟩ h
  have h2 : l.length ≤ 100000 := h
  have := drr0 x l c h2 l.length 0 (by omega) rounds (by simp only [rounds]; omega)
  rw [List.drop_zero] at this
  have e : drF ((x, l), c) = l.filter fun w => drK w c := rfl
  rw [← e] at this
  unfold drE at this
  simp only [Alt.val]
  by_cases hq : drF ((x, l), c) = []
  · rw [if_pos hq] at this
    rw [hq]; exact this
  · rw [if_neg hq] at this
    have : (drF ((x, l), c)).isEmpty = false := by simpa using hq
    rw [this]; assumption)
abbrev dropR_id : Nat := 11
abbrev dropR_sh : Shp := [none, none]
abbrev dropR_fs : List Lf := [.fl true Wait_tfs, .fi .i64]
abbrev dropR_rsh : Shp := [none]
abbrev dropR_rfs : List Lf := [.fl true Wait_tfs]
noncomputable def dropR_r (l_x : Bool) (l : List Wait_T) (client : Int) : Option Ret :=
  oK (drL.dec { fr := [(0, AV.slc l_x (List.map (mkV true Wait_tfs) l)), (1, AV.int IntKind.i64 client), (5, AV.slc true []), (6, AV.int IntKind.i64 0)], bs := [], df := [] }) fun (d0 : (Bool × List (Int × Int × Int × Int)) × Int) => bK (drF d0).isEmpty (some { pan := false, res := AV.slc true [], out := [], new := [] }) (bK (decide (0 + (List.map (mkV true Wait_tfs) (drF d0)).length ≤ (List.map (mkV true Wait_tfs) (drF d0)).length)) (some { pan := false, res := AV.slc false (List.take (List.map (mkV true Wait_tfs) (drF d0)).length (List.drop 0 (List.map (mkV true Wait_tfs) (drF d0)))), out := [], new := [] }) none)
theorem dropR_w (l_x : Bool) (l : List Wait_T) (client : Int) : unitQ Try.prog cfg PKz drP false 11 (groupA dropR_sh (Tu.mk dropR_fs ((l_x, l), client))) [] = dropR_r l_x l client := by kernel_rfl

def dropF (l : List Wait_T) (c : Int) : List Wait_T := l.filter fun w => !decide (w.1 = c)
theorem dropF_le (l : List Wait_T) (c : Int) : (dropF l c).length ≤ l.length := List.length_filter_le _ _
def dropRS : FS := ⟨dropR_sh, dropR_fs, dropR_rsh, dropR_rfs, fun d => d.1.2.length ≤ 100000, fun d => ((dropF d.1.2 d.2).isEmpty, dropF d.1.2 d.2), none⟩
theorem dropR_v (l_x : Bool) (l : List Wait_T) (client : Int) (h : dropRS.pre ((l_x, l), client)) : dropR_r l_x l client = some (dropRS.ret ((l_x, l), client)) := by
  have h' : l.length ≤ 100000 := h
  show _ = some (dropRS.out ((dropF l client).isEmpty, dropF l client))
  unfold dropR_r
  refine oK_lpq (Q := fun z => z = _) drH_inj ((l_x, l), client) h' ?_
  have e : drF ((l_x, l), client) = dropF l client := rfl
  rw [e]
  cases hd : dropF l client with
  | nil => rfl
  | cons a r =>
    refine bK_fq (Q := fun z => z = _) rfl (bK_tq (Q := fun z => z = _) (by simp) ?_)
    rw [List.drop_zero, List.take_length]
    rfl
theorem dropRO : ∀ d : Tu dropRS.fs, dropRS.pre d → CallOk Try.prog 11 (dropRS.args d) [] (dropRS.ret d)
  | ((l_x, l), client), h => CallOk.unit (fnOk PKz_ok 21) rfl drP_ok.loops (o := false) (by show 0 ≤ 1000; decide) ((dropR_w l_x l client).trans (dropR_v l_x l client h))
def dropS : FS := ⟨drop_sh, drop_fs, drop_rsh, drop_rfs, fun d => d.1.2.length ≤ 100000, fun d => (d.1.2.isEmpty, dropF d.1.2 d.2), none⟩
theorem dropO : ∀ d : Tu dropS.fs, dropS.pre d → CallOk Try.prog 10 (dropS.args d) [] (dropS.ret d) := by
  rintro ⟨⟨x, l⟩, c⟩ h
  have h' : l.length ≤ 100000 := h
  cases l with
  | nil => exact CallOk.unit (fnOk PKs0_ok 21) rfl fLoops_none (o := false) (by show 0 ≤ 1000; decide) (drop0_w x c)
  | cons a r =>
    generalize hl : a :: r = l at h'
    have h1 : 1 ≤ l.length := by rw [← hl]; simp
    have he : l.isEmpty = false := by rw [← hl]; rfl
    refine CallOk.unit (fnOk PKd_ok 21) rfl fLoops_none (o := false) (by show 0 ≤ 1000; decide) ((drop_w x l c).trans ?_)
    show _ = some (dropS.out (l.isEmpty, dropF l c))
    rw [he]
    unfold drop_r
    refine oK_pkq (Q := fun z => z = _) cl_inj (x, l) ⟨h1, h'⟩ ?_
    refine oK_pkq (Q := fun z => z = _) dcDA_inj (l, c) ⟨h1, h'⟩ ?_
    have ek : dckF (l, c) = dropF l c := rfl
    have ez : (dckZ (l, c)).take (dropF l c).length = dropF l c := keepZ_take _ _ _
    have el : (dckZ (l, c)).length = l.length := keepZ_len _ _ _
    have := dropF_le l c
    rw [ek]
    refine bK_tq (Q := fun z => z = _) (by simp; omega) ?_
    rw [List.drop_zero, ← List.map_take, ez]
    rfl
def placeF (l : List Wait_T) (c : Int) : Int := firstN (fun w => decide (w.1 = c)) l 0
/-- Where one waits. -/
def placeQ (l : List Wait_T) (c : Int) : Int := placeF l c
noncomputable def placeS : FS := ⟨place_sh, place_fs, place_rsh, place_rfs, fun d => d.1.2.length ≤ 100000, fun d => placeQ d.1.2 d.2, none⟩
theorem placeO : ∀ d : Tu placeS.fs, placeS.pre d → CallOk Try.prog 16 (placeS.args d) [] (placeS.ret d) := by
  rintro ⟨⟨x, l⟩, c⟩ h
  refine CallOk.unit (fnOk PKp_ok 21) rfl fLoops_none (o := false) (by show 0 ≤ 1000; decide) ((place_w x l c).trans ?_)
  unfold place_r
  exact oK_pkq (Q := fun z => z = _) plXA_inj ((x, l), c) h rfl

end Go.Proofs.Ytknikmehfnihpaa
