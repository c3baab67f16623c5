/- A part of the proof: contracts of functions. -/
import Derived.Test.YtihgfpggdkhhaaaY
import Derived.Test.YtihgfpggdkhhaaaAbAny

set_option linter.unusedVariables false
set_option linter.unusedSimpArgs false
set_option maxRecDepth 100000
namespace Go.Proofs.Ytihgfpggdkhhaaa
open Go Go.Ab
def skh (x : Bool) (a : List Mark_T) (y : Bool) (b : List Mark_T) (i : Int) : St := { fr := [(0, .slc x (a.map (mkV true Mark_tfs))), (1, .slc y (b.map (mkV true Mark_tfs))), (5, .int .i64 i)], bs := [], df := [] }
noncomputable def sks (x : Bool) (a : List Mark_T) (y : Bool) (b : List Mark_T) (i : Int) : Option (St ⊕ (Ex × St)) := stepK Try.prog cfg PKz LP0 50 0 (skh x a y b i)
noncomputable def sks_r (x : Bool) (a : List Mark_T) (y : Bool) (b : List Mark_T) (i : Int) : Option (St ⊕ Ex × St) :=
  bK (decide (i < (↑(List.map (mkV true Mark_tfs) a).length : Int))) (oK (elemAt true Mark_tfs (List.map (mkV true Mark_tfs) a) i) fun (d0 : Int × Int × Int × Int) => oK (elemAt true Mark_tfs (List.map (mkV true Mark_tfs) b) i) fun (d1 : Int × Int × Int × Int) => bK (!(decide (d0.fst = d1.fst) && (decide (d0.snd.fst = d1.snd.fst) && (decide (d0.snd.snd.fst = d1.snd.snd.fst) && (decide (d0.snd.snd.snd = d1.snd.snd.snd) && true))))) (some (Sum.inr (Ex.ret, { fr := [(4, AV.bool false)], bs := [], df := [] }))) (some (Sum.inl { fr := [(0, AV.slc x (List.map (mkV true Mark_tfs) a)), (1, AV.slc y (List.map (mkV true Mark_tfs) b)), (5, AV.int IntKind.i64 (IntKind.i64.wrap (i + 1)))], bs := [], df := [] }))) (some (Sum.inr (Ex.exit 0, { fr := [], bs := [], df := [] })))
theorem sks_w (x : Bool) (a : List Mark_T) (y : Bool) (b : List Mark_T) (i : Int) : sks x a y b i = sks_r x a y b i := by kernel_rfl

def ske : St := { fr := [], bs := [], df := [] }
def skn : St := { fr := [(4, .bool false)], bs := [], df := [] }
theorem sklo : (loopsOf 0 (codeOf Try.prog 50)).map (·.1) = [0] := by kernel_rfl
theorem skon : OneLoops Try.prog 50 := by unfold OneLoops; rw [sklo]; decide
theorem skat : At 0 (codeOf Try.prog 50) 0 (.loop (bodyAt Try.prog 50 0)) := at_body skon (by rw [sklo]; decide)
def skx (e : Bool) : Ex × St := if e then (.exit 0, ske) else (.ret, skn)
theorem skrun (x : Bool) (a : List Mark_T) (y : Bool) (b : List Mark_T) (hl : a.length ≤ 100000) (hb : b.length = a.length) : ∀ (k i : Nat), i + k = a.length → ∀ (m : Nat), k < m →
    Runs' Try.prog cfg PKz 50 0 m (skh x a y b i) (skx (decide (a.drop i = b.drop i)))
  | 0, i, hi, m + 1, hm => by
    refine Runs'.done (lp := LP0) LPok.none skat ((sks_w x a y b i).trans ?_)
    unfold sks_r
    rw [bK_neg (by simp; omega), List.drop_of_length_le (show a.length ≤ i by omega), List.drop_of_length_le (show b.length ≤ i by omega), decide_eq_true rfl]
    rfl
  | k + 1, i, hi, m + 1, hm => by
    have ha : i < a.length := by omega
    have hb' : i < b.length := by omega
    have hs : sks x a y b i = (if a.getD i (0, 0, 0, 0) = b.getD i (0, 0, 0, 0) then some (.inl (skh x a y b ((i + 1 : Nat) : Int))) else some (.inr (.ret, skn))) := by
      refine (sks_w x a y b i).trans ?_
      unfold sks_r
      refine bK_tq (Q := fun z => z = _) (by simp; omega) ?_
      refine oK_atq (Q := fun z => z = _) (fs := Mark_tfs) (0, 0, 0, 0) (by omega) (by simpa using ha) ?_
      refine oK_atq (Q := fun z => z = _) (fs := Mark_tfs) (0, 0, 0, 0) (by omega) (by simpa using hb') ?_
      rw [Int.toNat_natCast]
      generalize a.getD i (0, 0, 0, 0) = p
      generalize b.getD i (0, 0, 0, 0) = q
      rw [w64 (by omega) (by omega)]
      by_cases e : p = q
      · rw [if_pos e]
        subst e
        rw [bK_neg (by simp)]
        rfl
      · rw [if_neg e, bK_pos (by rw [Bool.not_eq_true']; refine Bool.eq_false_iff.2 fun hh => e ?_; simpa [Prod.ext_iff] using hh)]
        rfl
    have ea : a.drop i = a.getD i (0, 0, 0, 0) :: a.drop (i + 1) := by rw [List.drop_eq_getElem_cons ha, getD_at ha]
    have eb : b.drop i = b.getD i (0, 0, 0, 0) :: b.drop (i + 1) := by rw [List.drop_eq_getElem_cons hb', getD_at hb']
    by_cases e : a.getD i (0, 0, 0, 0) = b.getD i (0, 0, 0, 0)
    · rw [if_pos e] at hs
      have : decide (a.drop i = b.drop i) = decide (a.drop (i + 1) = b.drop (i + 1)) := by
        rw [ea, eb, e]; simp
      rw [this]
      exact Runs'.step (lp := LP0) LPok.none skat hs (skrun x a y b hl hb k (i + 1) (by omega) m (by omega))
    · rw [if_neg e] at hs
      have : decide (a.drop i = b.drop i) = false := by
        rw [ea, eb]; exact decide_eq_false (fun h => e (List.cons.inj h).1)
      rw [this]
      exact Runs'.done (lp := LP0) LPok.none skat hs
abbrev skD : Type := Bool × List Mark_T × Bool × List Mark_T
def skH (d : skD) : St := skh d.1 d.2.1 d.2.2.1 d.2.2.2 0
/-- Alike. -/
def skQ (a b : List Mark_T) : Bool := decide (a = b)
noncomputable def skL : LP := LP.of (D := skD) skH (fun d => d.2.1.length ≤ 100000 ∧ d.2.2.2.length = d.2.1.length) fun d => .ite (skQ d.2.1 d.2.2.2) (.leaf (.exit 0, ske)) (.leaf (.ret, skn))
noncomputable def skP : LPs := LPs.add LP0 50 0 skL
theorem skP_ok : LPok Try.prog cfg PKz skP 50 :=
  LPok.addH LPok.none skon fun d h => by
    have := skrun d.1 d.2.1 d.2.2.1 d.2.2.2 h.1 h.2 d.2.1.length 0 (by omega) rounds (by have : d.2.1.length ≤ 100000 := h.1; simp only [rounds]; omega)
    simp only [List.drop_zero] at this
    refine cast ?_ this
    congr 1
theorem skH_inj (d d' : skD) (h : skH d = skH d') : d = d' := by
  obtain ⟨x, a, y, b⟩ := d
  obtain ⟨x', a', y', b'⟩ := d'
  simp only [skH, skh, St.mk.injEq, List.cons.injEq, Prod.mk.injEq, AV.slc.injEq, and_true, true_and] at h
  obtain ⟨⟨h1, h2⟩, h3, h4⟩ := h
  rw [h1, map_inj (fs := Mark_tfs) rfl h2, h3, map_inj (fs := Mark_tfs) rfl h4]
abbrev sk_id : Nat := 50
abbrev sk_sh : Shp := [none, none]
abbrev sk_fs : List Lf := [.fl true Mark_tfs, .fl true Mark_tfs]
abbrev sk_rsh : Shp := [none]
abbrev sk_rfs : List Lf := [.fb]
noncomputable def sk_r (a_x : Bool) (a : List Mark_T) (b_x : Bool) (b : List Mark_T) : Option Ret :=
  bK (!decide ((↑(List.map (mkV true Mark_tfs) a).length : Int) = (↑(List.map (mkV true Mark_tfs) b).length : Int))) (some { pan := false, res := AV.bool false, out := [], new := [] }) (oK (skL.dec { fr := [(0, AV.slc a_x (List.map (mkV true Mark_tfs) a)), (1, AV.slc b_x (List.map (mkV true Mark_tfs) b)), (5, AV.int IntKind.i64 0)], bs := [], df := [] }) fun (d0 : Bool × List (Int × Int × Int × Int) × Bool × List (Int × Int × Int × Int)) => bK (skQ d0.snd.fst d0.snd.snd.snd) (some { pan := false, res := AV.bool true, out := [], new := [] }) (some { pan := false, res := AV.bool false, out := [], new := [] }))
theorem sk_w (a_x : Bool) (a : List Mark_T) (b_x : Bool) (b : List Mark_T) : unitQ Try.prog cfg PKz skP false 50 (groupA sk_sh (Tu.mk sk_fs ((a_x, a), (b_x, b)))) [] = sk_r a_x a b_x b := by kernel_rfl

def skS : FS := ⟨sk_sh, sk_fs, sk_rsh, sk_rfs, fun d => d.1.2.length ≤ 100000, fun d => skQ d.1.2 d.2.2, none⟩
theorem sk_v (a_x : Bool) (a : List Mark_T) (b_x : Bool) (b : List Mark_T) (h : skS.pre ((a_x, a), (b_x, b))) : sk_r a_x a b_x b = some (skS.ret ((a_x, a), (b_x, b))) := by
  have h' : a.length ≤ 100000 := h
  show _ = some (skS.out (skQ a b))
  unfold sk_r
  simp only [List.length_map]
  refine bK_n (fun c1 => ?_) (fun c1 => ?_)
  · have : skQ a b = false := decide_eq_false (by intro e; rw [e] at c1; exact c1 rfl)
    rw [this]; rfl
  · refine oK_lpq (Q := fun z => z = _) skH_inj (a_x, a, b_x, b) ⟨h', by show b.length = a.length; omega⟩ ?_
    show bK (skQ a b) _ _ = _
    cases skQ a b <;> rfl
theorem skO : ∀ d : Tu skS.fs, skS.pre d → CallOk Try.prog 50 (skS.args d) [] (skS.ret d)
  | ((a_x, a), (b_x, b)), h => CallOk.unit (fnOk PKz_ok 21) rfl skP_ok.loops (o := false) (by show 0 ≤ 1000; decide) ((sk_w a_x a b_x b).trans (sk_v a_x a b_x b h))
def efh (x : Bool) (a : List File_T) (y : Bool) (b : List File_T) (i : Int) : St := { fr := [(0, .slc x (a.map (mkV true File_tfs))), (1, .slc y (b.map (mkV true File_tfs))), (12, .int .i64 ((a.length : Nat) : Int)), (13, .int .i64 i)], bs := [], df := [] }
noncomputable def efs (x : Bool) (a : List File_T) (y : Bool) (b : List File_T) (i : Int) : Option (St ⊕ (Ex × St)) := stepK Try.prog cfg PKz LP0 61 0 (efh x a y b i)
noncomputable def efs_r (x : Bool) (a : List File_T) (y : Bool) (b : List File_T) (i : Int) : Option (St ⊕ Ex × St) :=
  bK (decide (i < (↑a.length : Int))) (oK (elemAt true File_tfs (List.map (mkV true File_tfs) a) i) fun (d0 : List UInt8 × Int × List UInt8) => oK (elemAt true File_tfs (List.map (mkV true File_tfs) b) i) fun (d1 : List UInt8 × Int × List UInt8) => bK (!(decide (d0.fst = d1.fst) && (decide (d0.snd.fst = d1.snd.fst) && (decide (d0.snd.snd = d1.snd.snd) && true)))) (some (Sum.inr (Ex.ret, { fr := [(4, AV.bool false)], bs := [], df := [] }))) (some (Sum.inl { fr := [(0, AV.slc x (List.map (mkV true File_tfs) a)), (1, AV.slc y (List.map (mkV true File_tfs) b)), (12, AV.int IntKind.i64 (↑a.length : Int)), (13, AV.int IntKind.i64 (IntKind.i64.wrap (i + 1)))], bs := [], df := [] }))) (some (Sum.inr (Ex.exit 0, { fr := [], bs := [], df := [] })))
theorem efs_w (x : Bool) (a : List File_T) (y : Bool) (b : List File_T) (i : Int) : efs x a y b i = efs_r x a y b i := by kernel_rfl

def efe : St := { fr := [], bs := [], df := [] }
def efn : St := { fr := [(4, .bool false)], bs := [], df := [] }
theorem eflo : (loopsOf 0 (codeOf Try.prog 61)).map (·.1) = [0] := by kernel_rfl
theorem efon : OneLoops Try.prog 61 := by unfold OneLoops; rw [eflo]; decide
theorem efat : At 0 (codeOf Try.prog 61) 0 (.loop (bodyAt Try.prog 61 0)) := at_body efon (by rw [eflo]; decide)
def efx (e : Bool) : Ex × St := if e then (.exit 0, efe) else (.ret, efn)
theorem efrun (x : Bool) (a : List File_T) (y : Bool) (b : List File_T) (hl : a.length ≤ 100000) (hb : b.length = a.length) : ∀ (k i : Nat), i + k = a.length → ∀ (m : Nat), k < m →
    Runs' Try.prog cfg PKz 61 0 m (efh x a y b i) (efx (decide (a.drop i = b.drop i)))
  | 0, i, hi, m + 1, hm => by
    refine Runs'.done (lp := LP0) LPok.none efat ((efs_w x a y b i).trans ?_)
    unfold efs_r
    rw [bK_neg (by simp; omega), List.drop_of_length_le (show a.length ≤ i by omega), List.drop_of_length_le (show b.length ≤ i by omega), decide_eq_true rfl]
    rfl
  | k + 1, i, hi, m + 1, hm => by
    have ha : i < a.length := by omega
    have hb' : i < b.length := by omega
    have hs : efs x a y b i = (if a.getD i ([], 0, []) = b.getD i ([], 0, []) then some (.inl (efh x a y b ((i + 1 : Nat) : Int))) else some (.inr (.ret, efn))) := by
      refine (efs_w x a y b i).trans ?_
      unfold efs_r
      refine bK_tq (Q := fun z => z = _) (by simp; omega) ?_
      refine oK_atq (Q := fun z => z = _) (fs := File_tfs) ([], 0, []) (by omega) (by simpa using ha) ?_
      refine oK_atq (Q := fun z => z = _) (fs := File_tfs) ([], 0, []) (by omega) (by simpa using hb') ?_
      rw [Int.toNat_natCast]
      generalize a.getD i ([], 0, []) = p
      generalize b.getD i ([], 0, []) = q
      rw [w64 (by omega) (by omega)]
      by_cases e : p = q
      · rw [if_pos e]
        subst e
        rw [bK_neg (by simp)]
        rfl
      · rw [if_neg e, bK_pos (by rw [Bool.not_eq_true']; refine Bool.eq_false_iff.2 fun hh => e ?_; simpa [Prod.ext_iff] using hh)]
        rfl
    have ea : a.drop i = a.getD i ([], 0, []) :: a.drop (i + 1) := by rw [List.drop_eq_getElem_cons ha, getD_at ha]
    have eb : b.drop i = b.getD i ([], 0, []) :: b.drop (i + 1) := by rw [List.drop_eq_getElem_cons hb', getD_at hb']
    by_cases e : a.getD i ([], 0, []) = b.getD i ([], 0, [])
    · rw [if_pos e] at hs
      have : decide (a.drop i = b.drop i) = decide (a.drop (i + 1) = b.drop (i + 1)) := by
        rw [ea, eb, e]; simp
      rw [this]
      exact Runs'.step (lp := LP0) LPok.none efat hs (efrun x a y b hl hb k (i + 1) (by omega) m (by omega))
    · rw [if_neg e] at hs
      have : decide (a.drop i = b.drop i) = false := by
        rw [ea, eb]; exact decide_eq_false (fun h => e (List.cons.inj h).1)
      rw [this]
      exact Runs'.done (lp := LP0) LPok.none efat hs
abbrev efD : Type := Bool × List File_T × Bool × List File_T
def efH (d : efD) : St := efh d.1 d.2.1 d.2.2.1 d.2.2.2 0
/-- Alike. -/
def efQ (a b : List File_T) : Bool := decide (a = b)
noncomputable def efL : LP := LP.of (D := efD) efH (fun d => d.2.1.length ≤ 100000 ∧ d.2.2.2.length = d.2.1.length) fun d => .ite (efQ d.2.1 d.2.2.2) (.leaf (.exit 0, efe)) (.leaf (.ret, efn))
noncomputable def efP : LPs := LPs.add LP0 61 0 efL
theorem efP_ok : LPok Try.prog cfg PKz efP 61 :=
  LPok.addH LPok.none efon fun d h => by
    have := efrun d.1 d.2.1 d.2.2.1 d.2.2.2 h.1 h.2 d.2.1.length 0 (by omega) rounds (by have : d.2.1.length ≤ 100000 := h.1; simp only [rounds]; omega)
    simp only [List.drop_zero] at this
    refine cast ?_ this
    congr 1
theorem efH_inj (d d' : efD) (h : efH d = efH d') : d = d' := by
  obtain ⟨x, a, y, b⟩ := d
  obtain ⟨x', a', y', b'⟩ := d'
  simp only [efH, efh, St.mk.injEq, List.cons.injEq, Prod.mk.injEq, AV.slc.injEq, and_true, true_and] at h
  obtain ⟨⟨h1, h2⟩, ⟨h3, h4⟩, _⟩ := h
  rw [h1, map_inj (fs := File_tfs) rfl h2, h3, map_inj (fs := File_tfs) rfl h4]
abbrev ef_id : Nat := 61
abbrev ef_sh : Shp := [none, none]
abbrev ef_fs : List Lf := [.fl true File_tfs, .fl true File_tfs]
abbrev ef_rsh : Shp := [none]
abbrev ef_rfs : List Lf := [.fb]
noncomputable def ef_r (s1_x : Bool) (s1 : List File_T) (s2_x : Bool) (s2 : List File_T) : Option Ret :=
  bK (!decide ((↑(List.map (mkV true File_tfs) s1).length : Int) = (↑(List.map (mkV true File_tfs) s2).length : Int))) (some { pan := false, res := AV.bool false, out := [], new := [] }) (oK (efL.dec { fr := [(0, AV.slc s1_x (List.map (mkV true File_tfs) s1)), (1, AV.slc s2_x (List.map (mkV true File_tfs) s2)), (12, AV.int IntKind.i64 (↑(List.map (mkV true File_tfs) s1).length : Int)), (13, AV.int IntKind.i64 0)], bs := [], df := [] }) fun (d0 : Bool × List (List UInt8 × Int × List UInt8) × Bool × List (List UInt8 × Int × List UInt8)) => bK (efQ d0.snd.fst d0.snd.snd.snd) (some { pan := false, res := AV.bool true, out := [], new := [] }) (some { pan := false, res := AV.bool false, out := [], new := [] }))
theorem ef_w (s1_x : Bool) (s1 : List File_T) (s2_x : Bool) (s2 : List File_T) : unitQ Try.prog cfg PKz efP false 61 (groupA ef_sh (Tu.mk ef_fs ((s1_x, s1), (s2_x, s2)))) [] = ef_r s1_x s1 s2_x s2 := by kernel_rfl

def efS : FS := ⟨ef_sh, ef_fs, ef_rsh, ef_rfs, fun d => d.1.2.length ≤ 100000, fun d => efQ d.1.2 d.2.2, none⟩
theorem ef_v (s1_x : Bool) (s1 : List File_T) (s2_x : Bool) (s2 : List File_T) (h : efS.pre ((s1_x, s1), (s2_x, s2))) : ef_r s1_x s1 s2_x s2 = some (efS.ret ((s1_x, s1), (s2_x, s2))) := by
  have h' : s1.length ≤ 100000 := h
  show _ = some (efS.out (efQ s1 s2))
  unfold ef_r
  simp only [List.length_map]
  refine bK_n (fun c1 => ?_) (fun c1 => ?_)
  · have : efQ s1 s2 = false := decide_eq_false (by intro e; rw [e] at c1; exact c1 rfl)
    rw [this]; rfl
  · refine oK_lpq (Q := fun z => z = _) efH_inj (s1_x, s1, s2_x, s2) ⟨h', by show s2.length = s1.length; omega⟩ ?_
    show bK (efQ s1 s2) _ _ = _
    cases efQ s1 s2 <;> rfl
theorem efO : ∀ d : Tu efS.fs, efS.pre d → CallOk Try.prog 61 (efS.args d) [] (efS.ret d)
  | ((s1_x, s1), (s2_x, s2)), h => CallOk.unit (fnOk PKz_ok 21) rfl efP_ok.loops (o := false) (by show 0 ≤ 1000; decide) ((ef_w s1_x s1 s2_x s2).trans (ef_v s1_x s1 s2_x s2 h))
def emh (x : Bool) (a : List Mark_T) (y : Bool) (b : List Mark_T) (i : Int) : St := { fr := [(0, .slc x (a.map (mkV true Mark_tfs))), (1, .slc y (b.map (mkV true Mark_tfs))), (12, .int .i64 ((a.length : Nat) : Int)), (13, .int .i64 i)], bs := [], df := [] }
noncomputable def ems (x : Bool) (a : List Mark_T) (y : Bool) (b : List Mark_T) (i : Int) : Option (St ⊕ (Ex × St)) := stepK Try.prog cfg PKz LP0 62 0 (emh x a y b i)
noncomputable def ems_r (x : Bool) (a : List Mark_T) (y : Bool) (b : List Mark_T) (i : Int) : Option (St ⊕ Ex × St) :=
  bK (decide (i < (↑a.length : Int))) (oK (elemAt true Mark_tfs (List.map (mkV true Mark_tfs) a) i) fun (d0 : Int × Int × Int × Int) => oK (elemAt true Mark_tfs (List.map (mkV true Mark_tfs) b) i) fun (d1 : Int × Int × Int × Int) => bK (!(decide (d0.fst = d1.fst) && (decide (d0.snd.fst = d1.snd.fst) && (decide (d0.snd.snd.fst = d1.snd.snd.fst) && (decide (d0.snd.snd.snd = d1.snd.snd.snd) && true))))) (some (Sum.inr (Ex.ret, { fr := [(4, AV.bool false)], bs := [], df := [] }))) (some (Sum.inl { fr := [(0, AV.slc x (List.map (mkV true Mark_tfs) a)), (1, AV.slc y (List.map (mkV true Mark_tfs) b)), (12, AV.int IntKind.i64 (↑a.length : Int)), (13, AV.int IntKind.i64 (IntKind.i64.wrap (i + 1)))], bs := [], df := [] }))) (some (Sum.inr (Ex.exit 0, { fr := [], bs := [], df := [] })))
theorem ems_w (x : Bool) (a : List Mark_T) (y : Bool) (b : List Mark_T) (i : Int) : ems x a y b i = ems_r x a y b i := by kernel_rfl

def eme : St := { fr := [], bs := [], df := [] }
def emn : St := { fr := [(4, .bool false)], bs := [], df := [] }
theorem emlo : (loopsOf 0 (codeOf Try.prog 62)).map (·.1) = [0] := by kernel_rfl
theorem emon : OneLoops Try.prog 62 := by unfold OneLoops; rw [emlo]; decide
theorem emat : At 0 (codeOf Try.prog 62) 0 (.loop (bodyAt Try.prog 62 0)) := at_body emon (by rw [emlo]; decide)
def emx (e : Bool) : Ex × St := if e then (.exit 0, eme) else (.ret, emn)
theorem emrun (x : Bool) (a : List Mark_T) (y : Bool) (b : List Mark_T) (hl : a.length ≤ 100000) (hb : b.length = a.length) : ∀ (k i : Nat), i + k = a.length → ∀ (m : Nat), k < m →
    Runs' Try.prog cfg PKz 62 0 m (emh x a y b i) (emx (decide (a.drop i = b.drop i)))
  | 0, i, hi, m + 1, hm => by
    refine Runs'.done (lp := LP0) LPok.none emat ((ems_w x a y b i).trans ?_)
    unfold ems_r
    rw [bK_neg (by simp; omega), List.drop_of_length_le (show a.length ≤ i by omega), List.drop_of_length_le (show b.length ≤ i by omega), decide_eq_true rfl]
    rfl
  | k + 1, i, hi, m + 1, hm => by
    have ha : i < a.length := by omega
    have hb' : i < b.length := by omega
    have hs : ems x a y b i = (if a.getD i (0, 0, 0, 0) = b.getD i (0, 0, 0, 0) then some (.inl (emh x a y b ((i + 1 : Nat) : Int))) else some (.inr (.ret, emn))) := by
      refine (ems_w x a y b i).trans ?_
      unfold ems_r
      refine bK_tq (Q := fun z => z = _) (by simp; omega) ?_
      refine oK_atq (Q := fun z => z = _) (fs := Mark_tfs) (0, 0, 0, 0) (by omega) (by simpa using ha) ?_
      refine oK_atq (Q := fun z => z = _) (fs := Mark_tfs) (0, 0, 0, 0) (by omega) (by simpa using hb') ?_
      rw [Int.toNat_natCast]
      generalize a.getD i (0, 0, 0, 0) = p
      generalize b.getD i (0, 0, 0, 0) = q
      rw [w64 (by omega) (by omega)]
      by_cases e : p = q
      · rw [if_pos e]
        subst e
        rw [bK_neg (by simp)]
        rfl
      · rw [if_neg e, bK_pos (by rw [Bool.not_eq_true']; refine Bool.eq_false_iff.2 fun hh => e ?_; simpa [Prod.ext_iff] using hh)]
        rfl
    have ea : a.drop i = a.getD i (0, 0, 0, 0) :: a.drop (i + 1) := by rw [List.drop_eq_getElem_cons ha, getD_at ha]
    have eb : b.drop i = b.getD i (0, 0, 0, 0) :: b.drop (i + 1) := by rw [List.drop_eq_getElem_cons hb', getD_at hb']
    by_cases e : a.getD i (0, 0, 0, 0) = b.getD i (0, 0, 0, 0)
    · rw [if_pos e] at hs
      have : decide (a.drop i = b.drop i) = decide (a.drop (i + 1) = b.drop (i + 1)) := by
        rw [ea, eb, e]; simp
      rw [this]
      exact Runs'.step (lp := LP0) LPok.none emat hs (emrun x a y b hl hb k (i + 1) (by omega) m (by omega))
    · rw [if_neg e] at hs
      have : decide (a.drop i = b.drop i) = false := by
        rw [ea, eb]; exact decide_eq_false (fun h => e (List.cons.inj h).1)
      rw [this]
      exact Runs'.done (lp := LP0) LPok.none emat hs
abbrev emD : Type := Bool × List Mark_T × Bool × List Mark_T
def emH (d : emD) : St := emh d.1 d.2.1 d.2.2.1 d.2.2.2 0
/-- Alike. -/
def emQ (a b : List Mark_T) : Bool := decide (a = b)
noncomputable def emL : LP := LP.of (D := emD) emH (fun d => d.2.1.length ≤ 100000 ∧ d.2.2.2.length = d.2.1.length) fun d => .ite (emQ d.2.1 d.2.2.2) (.leaf (.exit 0, eme)) (.leaf (.ret, emn))
noncomputable def emP : LPs := LPs.add LP0 62 0 emL
theorem emP_ok : LPok Try.prog cfg PKz emP 62 :=
  LPok.addH LPok.none emon fun d h => by
    have := emrun d.1 d.2.1 d.2.2.1 d.2.2.2 h.1 h.2 d.2.1.length 0 (by omega) rounds (by have : d.2.1.length ≤ 100000 := h.1; simp only [rounds]; omega)
    simp only [List.drop_zero] at this
    refine cast ?_ this
    congr 1
theorem emH_inj (d d' : emD) (h : emH d = emH d') : d = d' := by
  obtain ⟨x, a, y, b⟩ := d
  obtain ⟨x', a', y', b'⟩ := d'
  simp only [emH, emh, St.mk.injEq, List.cons.injEq, Prod.mk.injEq, AV.slc.injEq, and_true, true_and] at h
  obtain ⟨⟨h1, h2⟩, ⟨h3, h4⟩, _⟩ := h
  rw [h1, map_inj (fs := Mark_tfs) rfl h2, h3, map_inj (fs := Mark_tfs) rfl h4]
abbrev em_id : Nat := 62
abbrev em_sh : Shp := [none, none]
abbrev em_fs : List Lf := [.fl true Mark_tfs, .fl true Mark_tfs]
abbrev em_rsh : Shp := [none]
abbrev em_rfs : List Lf := [.fb]
noncomputable def em_r (s1_x : Bool) (s1 : List Mark_T) (s2_x : Bool) (s2 : List Mark_T) : Option Ret :=
  bK (!decide ((↑(List.map (mkV true Mark_tfs) s1).length : Int) = (↑(List.map (mkV true Mark_tfs) s2).length : Int))) (some { pan := false, res := AV.bool false, out := [], new := [] }) (oK (emL.dec { fr := [(0, AV.slc s1_x (List.map (mkV true Mark_tfs) s1)), (1, AV.slc s2_x (List.map (mkV true Mark_tfs) s2)), (12, AV.int IntKind.i64 (↑(List.map (mkV true Mark_tfs) s1).length : Int)), (13, AV.int IntKind.i64 0)], bs := [], df := [] }) fun (d0 : Bool × List (Int × Int × Int × Int) × Bool × List (Int × Int × Int × Int)) => bK (emQ d0.snd.fst d0.snd.snd.snd) (some { pan := false, res := AV.bool true, out := [], new := [] }) (some { pan := false, res := AV.bool false, out := [], new := [] }))
theorem em_w (s1_x : Bool) (s1 : List Mark_T) (s2_x : Bool) (s2 : List Mark_T) : unitQ Try.prog cfg PKz emP false 62 (groupA em_sh (Tu.mk em_fs ((s1_x, s1), (s2_x, s2)))) [] = em_r s1_x s1 s2_x s2 := by kernel_rfl

def emS : FS := ⟨em_sh, em_fs, em_rsh, em_rfs, fun d => d.1.2.length ≤ 100000, fun d => emQ d.1.2 d.2.2, none⟩
theorem em_v (s1_x : Bool) (s1 : List Mark_T) (s2_x : Bool) (s2 : List Mark_T) (h : emS.pre ((s1_x, s1), (s2_x, s2))) : em_r s1_x s1 s2_x s2 = some (emS.ret ((s1_x, s1), (s2_x, s2))) := by
  have h' : s1.length ≤ 100000 := h
  show _ = some (emS.out (emQ s1 s2))
  unfold em_r
  simp only [List.length_map]
  refine bK_n (fun c1 => ?_) (fun c1 => ?_)
  · have : emQ s1 s2 = false := decide_eq_false (by intro e; rw [e] at c1; exact c1 rfl)
    rw [this]; rfl
  · refine oK_lpq (Q := fun z => z = _) emH_inj (s1_x, s1, s2_x, s2) ⟨h', by show s2.length = s1.length; omega⟩ ?_
    show bK (emQ s1 s2) _ _ = _
    cases emQ s1 s2 <;> rfl
theorem emO : ∀ d : Tu emS.fs, emS.pre d → CallOk Try.prog 62 (emS.args d) [] (emS.ret d)
  | ((s1_x, s1), (s2_x, s2)), h => CallOk.unit (fnOk PKz_ok 21) rfl emP_ok.loops (o := false) (by show 0 ≤ 1000; decide) ((em_w s1_x s1 s2_x s2).trans (em_v s1_x s1 s2_x s2 h))
noncomputable def E1 : PKs := cmPK.add 50 skS.pk
theorem E1_ok : PKsOk Try.prog E1 := PKsOk.anyF cmPK_ok 50 skS skO
noncomputable def E2 : PKs := E1.add 61 efS.pk
theorem E2_ok : PKsOk Try.prog E2 := PKsOk.anyF E1_ok 61 efS efO
noncomputable def E3 : PKs := E2.add 62 emS.pk
theorem E3_ok : PKsOk Try.prog E3 := PKsOk.anyF E2_ok 62 emS emO
abbrev boot_id : Nat := 22
abbrev boot_sh : Shp := [some 3]
abbrev boot_fs : List Lf := [.fl true File_tfs, .fl true Mark_tfs, .fi .i64]
abbrev boot_rsh : Shp := [some 3]
abbrev boot_rfs : List Lf := [.fl true File_tfs, .fl true Mark_tfs, .fi .i64]
noncomputable def boot_r (s_Files_x : Bool) (s_Files : List File_T) (s_Marks_x : Bool) (s_Marks : List Mark_T) (s_Epoch : Int) : Option Ret :=
  oK (cfP.dec [AV.slc s_Files_x (List.map (mkV true File_tfs) s_Files)] []) fun (d0 : Bool × List (List UInt8 × Int × List UInt8)) => oK (cmP.dec [AV.slc s_Marks_x (List.map (mkV true Mark_tfs) s_Marks)] []) fun (d1 : Bool × List (Int × Int × Int × Int)) => bK (decide (0 + (List.map (mkV true File_tfs) d0.snd).length ≤ (List.map (mkV true File_tfs) d0.snd).length)) (bK (decide (0 + (List.map (mkV true Mark_tfs) d1.snd).length ≤ (List.map (mkV true Mark_tfs) d1.snd).length)) (some { pan := false, res := AV.agg [AV.slc false (List.take (List.map (mkV true File_tfs) d0.snd).length (List.drop 0 (List.map (mkV true File_tfs) d0.snd))), AV.slc false (List.take (List.map (mkV true Mark_tfs) d1.snd).length (List.drop 0 (List.map (mkV true Mark_tfs) d1.snd))), AV.int IntKind.i64 (minI (IntKind.i64.wrap (s_Epoch + 1)) 1073741824)], out := [], new := [] }) none) none
theorem boot_w (s_Files_x : Bool) (s_Files : List File_T) (s_Marks_x : Bool) (s_Marks : List Mark_T) (s_Epoch : Int) : unitQ Try.prog cfg E3 LP0 false 22 (groupA boot_sh (Tu.mk boot_fs ((s_Files_x, s_Files), (s_Marks_x, s_Marks), s_Epoch))) [] = boot_r s_Files_x s_Files s_Marks_x s_Marks s_Epoch := by kernel_rfl

abbrev sameP_id : Nat := 26
abbrev sameP_sh : Shp := [some 3, some 3]
abbrev sameP_fs : List Lf := [.fl true File_tfs, .fl true Mark_tfs, .fi .i64, .fl true File_tfs, .fl true Mark_tfs, .fi .i64]
abbrev sameP_rsh : Shp := [none]
abbrev sameP_rfs : List Lf := [.fb]
noncomputable def sameP_r (a_Files_x : Bool) (a_Files : List File_T) (a_Marks_x : Bool) (a_Marks : List Mark_T) (a_Epoch : Int) (b_Files_x : Bool) (b_Files : List File_T) (b_Marks_x : Bool) (b_Marks : List Mark_T) (b_Epoch : Int) : Option Ret :=
  oK (efS.dec [AV.slc a_Files_x (List.map (mkV true File_tfs) a_Files), AV.slc b_Files_x (List.map (mkV true File_tfs) b_Files)] []) fun (d0 : (Bool × List (List UInt8 × Int × List UInt8)) × Bool × List (List UInt8 × Int × List UInt8)) => bK (efQ d0.fst.snd d0.snd.snd) (oK (emS.dec [AV.slc a_Marks_x (List.map (mkV true Mark_tfs) a_Marks), AV.slc b_Marks_x (List.map (mkV true Mark_tfs) b_Marks)] []) fun (d1 : (Bool × List (Int × Int × Int × Int)) × Bool × List (Int × Int × Int × Int)) => bK (emQ d1.fst.snd d1.snd.snd) (some { pan := false, res := AV.bool (decide (a_Epoch = b_Epoch)), out := [], new := [] }) (some { pan := false, res := AV.bool false, out := [], new := [] })) (some { pan := false, res := AV.bool false, out := [], new := [] })
theorem sameP_w (a_Files_x : Bool) (a_Files : List File_T) (a_Marks_x : Bool) (a_Marks : List Mark_T) (a_Epoch : Int) (b_Files_x : Bool) (b_Files : List File_T) (b_Marks_x : Bool) (b_Marks : List Mark_T) (b_Epoch : Int) : unitQ Try.prog cfg E3 LP0 false 26 (groupA sameP_sh (Tu.mk sameP_fs ((a_Files_x, a_Files), (a_Marks_x, a_Marks), a_Epoch, (b_Files_x, b_Files), (b_Marks_x, b_Marks), b_Epoch))) [] = sameP_r a_Files_x a_Files a_Marks_x a_Marks a_Epoch b_Files_x b_Files b_Marks_x b_Marks b_Epoch := by kernel_rfl

def bootPF (s : State_T) : State_T := ((false, s.1.2), (false, s.2.1.2), minI (IntKind.i64.wrap (s.2.2 + 1)) 1073741824)
noncomputable def bootPS : FS := ⟨boot_sh, boot_fs, boot_rsh, boot_rfs, fun s => sokP s, fun s => bootPF s, none⟩
theorem bootPO : ∀ d : Tu bootPS.fs, bootPS.pre d → CallOk Try.prog 22 (bootPS.args d) [] (bootPS.ret d) := by
  rintro ⟨⟨fx, F⟩, ⟨mx, M⟩, ep⟩ h
  refine CallOk.unit (fnOk E3_ok 21) rfl fLoops_none (o := false) (by show 0 ≤ 1000; decide) ((boot_w fx F mx M ep).trans ?_)
  unfold boot_r
  refine oK_pkq (Q := fun z => z = _) cf_inj (fx, F) h.1 ?_
  refine oK_pkq (Q := fun z => z = _) cm_inj (mx, M) h.2 ?_
  dsimp only
  rw [bK_pos (by simp), bK_pos (by simp), List.drop_zero, List.drop_zero, List.take_length, List.take_length]
  rfl
def stEq (s t : State_T) : Prop := s.1.2 = t.1.2 ∧ s.2.1.2 = t.2.1.2 ∧ s.2.2 = t.2.2
instance (s t : State_T) : Decidable (stEq s t) := inferInstanceAs (Decidable (_ ∧ _))
/-- Alike. -/
def stEqQ (s t : State_T) : Bool := decide (stEq s t)
abbrev sa (d : Tu sameP_fs) : State_T := (d.1, d.2.1, d.2.2.1)
abbrev sb (d : Tu sameP_fs) : State_T := (d.2.2.2.1, d.2.2.2.2.1, d.2.2.2.2.2)
noncomputable def samePS : FS := ⟨sameP_sh, sameP_fs, sameP_rsh, sameP_rfs, fun d => (sa d).1.2.length ≤ 100000 ∧ (sa d).2.1.2.length ≤ 100000, fun d => stEqQ (sa d) (sb d), none⟩
theorem samePV (fx : Bool) (F : List File_T) (mx : Bool) (M : List Mark_T) (ep : Int) (gx : Bool) (G : List File_T) (nx : Bool) (N : List Mark_T) (eq : Int) (h1 : F.length ≤ 100000) (h2 : M.length ≤ 100000) : sameP_r fx F mx M ep gx G nx N eq = some (samePS.out (stEqQ ((fx, F), (mx, M), ep) ((gx, G), (nx, N), eq))) := by
  have e : stEqQ ((fx, F), (mx, M), ep) ((gx, G), (nx, N), eq) = decide (F = G ∧ M = N ∧ ep = eq) := rfl
  rw [e]
  unfold sameP_r
  refine oK_fsq (Q := fun z => z = _) efS ((fx, F), (gx, G)) h1 ?_
  have q1 : efQ F G = decide (F = G) := rfl
  have q2 : emQ M N = decide (M = N) := rfl
  rw [q1]
  refine bK_i (fun c1 => ?_) (fun c1 => ?_)
  · refine oK_fsq (Q := fun z => z = _) emS ((mx, M), (nx, N)) h2 ?_
    rw [q2]
    refine bK_i (fun c2 => ?_) (fun c2 => ?_)
    · simp only [c1, c2, true_and]; rfl
    · rw [decide_eq_false (fun hh => c2 hh.2.1)]; rfl
  · rw [decide_eq_false (fun hh => c1 hh.1)]; rfl
theorem samePO : ∀ d : Tu samePS.fs, samePS.pre d → CallOk Try.prog 26 (samePS.args d) [] (samePS.ret d)
  | ((fx, F), (mx, M), ep, (gx, G), (nx, N), eq), h => CallOk.unit (fnOk E3_ok 21) rfl fLoops_none (o := false) (by show 0 ≤ 1000; decide) ((sameP_w fx F mx M ep gx G nx N eq).trans (samePV fx F mx M ep gx G nx N eq h.1 h.2))
def ssh (s t : State_T) (i : Int) : St := { fr := [(2, .ptr 32 0 0 0), (3, .ptr 48 0 0 0), (5, .int .i64 i)], bs := [(32, boxB (Tu.mk State_tfs s)), (48, boxB (Tu.mk State_tfs t))], df := [] }
noncomputable def ss_s (s t : State_T) (i : Int) : Option (St ⊕ (Ex × St)) := stepK Try.prog cfg E3 LP0 18 0 (ssh s t i)
noncomputable def ss_s_r (s : State_T) (t : State_T) (i : Int) : Option (St ⊕ Ex × St) :=
  bK (decide (i < (↑(List.map (mkV true File_tfs) s.fst.snd).length : Int))) (oK (elemAt true File_tfs (List.map (mkV true File_tfs) s.fst.snd) i) fun (d0 : List UInt8 × Int × List UInt8) => oK (elemAt true File_tfs (List.map (mkV true File_tfs) t.fst.snd) i) fun (d1 : List UInt8 × Int × List UInt8) => bK (!(decide (d0.fst = d1.fst) && (decide (d0.snd.fst = d1.snd.fst) && (decide (d0.snd.snd = d1.snd.snd) && true)))) (some (Sum.inr (Ex.ret, { fr := [(4, AV.bool false)], bs := [], df := [] }))) (some (Sum.inl { fr := [(2, AV.ptr 32 0 0 0), (3, AV.ptr 48 0 0 0), (5, AV.int IntKind.i64 (IntKind.i64.wrap (i + 1)))], bs := [(32, { v := 0, k := BK.box, fz := false, sz := 0, es := [AV.slc s.fst.fst (List.map (mkV true File_tfs) s.fst.snd), AV.slc s.snd.fst.fst (List.map (mkV true Mark_tfs) s.snd.fst.snd), AV.int IntKind.i64 s.snd.snd] }), (48, { v := 0, k := BK.box, fz := false, sz := 0, es := [AV.slc t.fst.fst (List.map (mkV true File_tfs) t.fst.snd), AV.slc t.snd.fst.fst (List.map (mkV true Mark_tfs) t.snd.fst.snd), AV.int IntKind.i64 t.snd.snd] })], df := [] }))) (some (Sum.inr (Ex.exit 0, { fr := [], bs := [], df := [] })))
theorem ss_s_w (s : State_T) (t : State_T) (i : Int) : ss_s s t i = ss_s_r s t i := by kernel_rfl

end Go.Proofs.Ytihgfpggdkhhaaa
