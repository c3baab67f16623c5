/- A part of the proof: contracts of functions. -/
import Derived.Test.YtbifdenekkijfaaB
import Derived.Test.YtbifdenekkijfaaAbAny

set_option linter.unusedVariables false
set_option linter.unusedSimpArgs false
set_option maxRecDepth 100000
namespace Go.Proofs.Ytbifdenekkijfaa
open Go Go.Ab
abbrev I1_T : Type := Int
abbrev I1_tfs : List Lf := [.fi .i64]
def sah (x : Bool) (a : List I1_T) (y : Bool) (b : List I1_T) (i : Int) : St := { fr := [(0, .slc x (a.map (mkV false I1_tfs))), (1, .slc y (b.map (mkV false I1_tfs))), (5, .int .i64 i)], bs := [], df := [] }
noncomputable def sas (x : Bool) (a : List I1_T) (y : Bool) (b : List I1_T) (i : Int) : Option (St ⊕ (Ex × St)) := stepK Try.prog cfg PKz LP0 16 0 (sah x a y b i)
noncomputable def sas_r (x : Bool) (a : List I1_T) (y : Bool) (b : List I1_T) (i : Int) : Option (St ⊕ Ex × St) :=
  bK (decide (i < (↑(List.map (mkV false I1_tfs) a).length : Int))) (oK (elemAt false I1_tfs (List.map (mkV false I1_tfs) a) i) fun (d0 : Int) => oK (elemAt false I1_tfs (List.map (mkV false I1_tfs) b) i) fun (d1 : Int) => bK (!decide (d0 = d1)) (some (Sum.inr (Ex.ret, { fr := [(4, AV.bool false)], bs := [], df := [] }))) (some (Sum.inl { fr := [(0, AV.slc x (List.map (mkV false I1_tfs) a)), (1, AV.slc y (List.map (mkV false I1_tfs) b)), (5, AV.int IntKind.i64 (IntKind.i64.wrap (i + 1)))], bs := [], df := [] }))) (some (Sum.inr (Ex.exit 0, { fr := [], bs := [], df := [] })))
theorem sas_w (x : Bool) (a : List I1_T) (y : Bool) (b : List I1_T) (i : Int) : sas x a y b i = sas_r x a y b i := by kernel_rfl

def sae : St := { fr := [], bs := [], df := [] }
def san : St := { fr := [(4, .bool false)], bs := [], df := [] }
theorem salo : (loopsOf 0 (codeOf Try.prog 16)).map (·.1) = [0] := by kernel_rfl
theorem saon : OneLoops Try.prog 16 := by unfold OneLoops; rw [salo]; decide
theorem saat : At 0 (codeOf Try.prog 16) 0 (.loop (bodyAt Try.prog 16 0)) := at_body saon (by rw [salo]; decide)
def sax (e : Bool) : Ex × St := if e then (.exit 0, sae) else (.ret, san)
theorem sarun (x : Bool) (a : List I1_T) (y : Bool) (b : List I1_T) (hl : a.length ≤ 100000) (hb : b.length = a.length) : ∀ (k i : Nat), i + k = a.length → ∀ (m : Nat), k < m →
    Runs' Try.prog cfg PKz 16 0 m (sah x a y b i) (sax (decide (a.drop i = b.drop i)))
  | 0, i, hi, m + 1, hm => by
    refine Runs'.done (lp := LP0) LPok.none saat ((sas_w x a y b i).trans ?_)
    unfold sas_r
    rw [bK_neg (by simp; omega), List.drop_of_length_le (show a.length ≤ i by omega), List.drop_of_length_le (show b.length ≤ i by omega), decide_eq_true rfl]
    rfl
  | k + 1, i, hi, m + 1, hm => by
    have ha : i < a.length := by omega
    have hb' : i < b.length := by omega
    have hs : sas x a y b i = (if a.getD i 0 = b.getD i 0 then some (.inl (sah x a y b ((i + 1 : Nat) : Int))) else some (.inr (.ret, san))) := by
      refine (sas_w x a y b i).trans ?_
      unfold sas_r
      refine bK_tq (Q := fun z => z = _) (by simp; omega) ?_
      refine oK_atq (Q := fun z => z = _) (fs := I1_tfs) 0 (by omega) (by simpa using ha) ?_
      refine oK_atq (Q := fun z => z = _) (fs := I1_tfs) 0 (by omega) (by simpa using hb') ?_
      rw [Int.toNat_natCast]
      generalize a.getD i 0 = p
      generalize b.getD i 0 = q
      rw [w64 (by omega) (by omega)]
      by_cases e : p = q
      · rw [if_pos e]
        subst e
        rw [bK_neg (by simp)]
        rfl
      · rw [if_neg e, bK_pos (by rw [Bool.not_eq_true']; refine Bool.eq_false_iff.2 fun hh => e ?_; simpa [Prod.ext_iff] using hh)]
        rfl
    have ea : a.drop i = a.getD i 0 :: a.drop (i + 1) := by rw [List.drop_eq_getElem_cons ha, getD_at ha]
    have eb : b.drop i = b.getD i 0 :: b.drop (i + 1) := by rw [List.drop_eq_getElem_cons hb', getD_at hb']
    by_cases e : a.getD i 0 = b.getD i 0
    · rw [if_pos e] at hs
      have : decide (a.drop i = b.drop i) = decide (a.drop (i + 1) = b.drop (i + 1)) := by
        rw [ea, eb, e]; simp
      rw [this]
      exact Runs'.step (lp := LP0) LPok.none saat hs (sarun x a y b hl hb k (i + 1) (by omega) m (by omega))
    · rw [if_neg e] at hs
      have : decide (a.drop i = b.drop i) = false := by
        rw [ea, eb]; exact decide_eq_false (fun h => e (List.cons.inj h).1)
      rw [this]
      exact Runs'.done (lp := LP0) LPok.none saat hs
abbrev saD : Type := Bool × List I1_T × Bool × List I1_T
def saH (d : saD) : St := sah d.1 d.2.1 d.2.2.1 d.2.2.2 0
/-- Alike. -/
def saQ (a b : List I1_T) : Bool := decide (a = b)
noncomputable def saL : LP := LP.of (D := saD) saH (fun d => d.2.1.length ≤ 100000 ∧ d.2.2.2.length = d.2.1.length) fun d => .ite (saQ d.2.1 d.2.2.2) (.leaf (.exit 0, sae)) (.leaf (.ret, san))
noncomputable def saP : LPs := LPs.add LP0 16 0 saL
theorem saP_ok : LPok Try.prog cfg PKz saP 16 :=
  LPok.addH LPok.none saon fun d h => by
    have := sarun d.1 d.2.1 d.2.2.1 d.2.2.2 h.1 h.2 d.2.1.length 0 (by omega) rounds (by have : d.2.1.length ≤ 100000 := h.1; simp only [rounds]; omega)
    simp only [List.drop_zero] at this
    refine cast ?_ this
    congr 1
theorem saH_inj (d d' : saD) (h : saH d = saH d') : d = d' := by
  obtain ⟨x, a, y, b⟩ := d
  obtain ⟨x', a', y', b'⟩ := d'
  simp only [saH, sah, St.mk.injEq, List.cons.injEq, Prod.mk.injEq, AV.slc.injEq, and_true, true_and] at h
  obtain ⟨⟨h1, h2⟩, h3, h4⟩ := h
  rw [h1, map_inj (fs := I1_tfs) rfl h2, h3, map_inj (fs := I1_tfs) rfl h4]
abbrev sa_id : Nat := 16
abbrev sa_sh : Shp := [none, none]
abbrev sa_fs : List Lf := [.fl false [.fi .i64], .fl false [.fi .i64]]
abbrev sa_rsh : Shp := [none]
abbrev sa_rfs : List Lf := [.fb]
noncomputable def sa_r (a_x : Bool) (a : List Int) (b_x : Bool) (b : List Int) : Option Ret :=
  bK (!decide ((↑(List.map (mkV false I1_tfs) a).length : Int) = (↑(List.map (mkV false I1_tfs) b).length : Int))) (some { pan := false, res := AV.bool false, out := [], new := [] }) (oK (saL.dec { fr := [(0, AV.slc a_x (List.map (mkV false I1_tfs) a)), (1, AV.slc b_x (List.map (mkV false I1_tfs) b)), (5, AV.int IntKind.i64 0)], bs := [], df := [] }) fun (d0 : Bool × List Int × Bool × List Int) => bK (saQ d0.snd.fst d0.snd.snd.snd) (some { pan := false, res := AV.bool true, out := [], new := [] }) (some { pan := false, res := AV.bool false, out := [], new := [] }))
theorem sa_w (a_x : Bool) (a : List Int) (b_x : Bool) (b : List Int) : unitQ Try.prog cfg PKz saP false 16 (groupA sa_sh (Tu.mk sa_fs ((a_x, a), (b_x, b)))) [] = sa_r a_x a b_x b := by kernel_rfl

def saS : FS := ⟨sa_sh, sa_fs, sa_rsh, sa_rfs, fun d => d.1.2.length ≤ 100000, fun d => saQ d.1.2 d.2.2, none⟩
theorem sa_v (a_x : Bool) (a : List Int) (b_x : Bool) (b : List Int) (h : saS.pre ((a_x, a), (b_x, b))) : sa_r a_x a b_x b = some (saS.ret ((a_x, a), (b_x, b))) := by
  have h' : a.length ≤ 100000 := h
  show _ = some (saS.out (saQ a b))
  unfold sa_r
  simp only [List.length_map]
  refine bK_n (fun c1 => ?_) (fun c1 => ?_)
  · have : saQ a b = false := decide_eq_false (by intro e; rw [e] at c1; exact c1 rfl)
    rw [this]; rfl
  · refine oK_lpq (Q := fun z => z = _) saH_inj (a_x, a, b_x, b) ⟨h', by show b.length = a.length; omega⟩ ?_
    show bK (saQ a b) _ _ = _
    cases saQ a b <;> rfl
theorem saO : ∀ d : Tu saS.fs, saS.pre d → CallOk Try.prog 16 (saS.args d) [] (saS.ret d)
  | ((a_x, a), (b_x, b)), h => CallOk.unit (fnOk PKz_ok 21) rfl saP_ok.loops (o := false) (by show 0 ≤ 1000; decide) ((sa_w a_x a b_x b).trans (sa_v a_x a b_x b h))
def mayh (x : Bool) (l : List Lease_T) (i : Int) : St := { fr := [(0, .slc x (l.map (mkV true Lease_tfs))), (5, .slc x (l.map (mkV true Lease_tfs))), (6, .int .i64 (((l.map (mkV true Lease_tfs)).length : Nat) : Int)), (7, .int .i64 i)], bs := [], df := [] }
noncomputable def may_s (x : Bool) (l : List Lease_T) (i : Int) : Option (St ⊕ (Ex × St)) := stepK Try.prog cfg Q1 LP0 19 0 (mayh x l i)
noncomputable def may_s_r (x : Bool) (l : List Lease_T) (i : Int) : Option (St ⊕ Ex × St) :=
  bK (decide (i < (↑(List.map (mkV true Lease_tfs) l).length : Int)))
  (oK (elemAt true Lease_tfs (List.map (mkV true Lease_tfs) l) i) fun (d0 : Int × Int × Int × Int) =>
    bK (decide (d0.fst < 1)) (some (Sum.inr (Ex.ret, { fr := [(2, AV.bool false)], bs := [], df := [] })))
      (bK (decide (3 < d0.fst)) (some (Sum.inr (Ex.ret, { fr := [(2, AV.bool false)], bs := [], df := [] })))
        (bK (decide (d0.snd.fst < 1)) (some (Sum.inr (Ex.ret, { fr := [(2, AV.bool false)], bs := [], df := [] })))
          (bK (decide (6 < d0.snd.fst)) (some (Sum.inr (Ex.ret, { fr := [(2, AV.bool false)], bs := [], df := [] })))
            (bK (decide (d0.snd.snd.fst < 1)) (some (Sum.inr (Ex.ret, { fr := [(2, AV.bool false)], bs := [], df := [] })))
              (bK (decide (2 < d0.snd.snd.fst)) (some (Sum.inr (Ex.ret, { fr := [(2, AV.bool false)], bs := [], df := [] }))) (bK (decide (d0.snd.snd.snd < 0)) (some (Sum.inr (Ex.ret, { fr := [(2, AV.bool false)], bs := [], df := [] }))) (bK (decide (0 < i)) (oK (elemAt true Lease_tfs (List.map (mkV true Lease_tfs) l) (IntKind.i64.wrap (i - 1))) fun (d1 : Int × Int × Int × Int) => oK (orderS.dec [AV.agg [AV.int IntKind.i64 d1.fst, AV.int IntKind.i64 d1.snd.fst, AV.int IntKind.i64 d1.snd.snd.fst, AV.int IntKind.i64 d1.snd.snd.snd], AV.agg [AV.int IntKind.i64 d0.fst, AV.int IntKind.i64 d0.snd.fst, AV.int IntKind.i64 d0.snd.snd.fst, AV.int IntKind.i64 d0.snd.snd.snd]] []) fun (d2 : Int × Int × Int × Int × Int × Int × Int × Int) => bK (decide (0 ≤ ordF (d2.fst, d2.snd.fst, d2.snd.snd.fst, d2.snd.snd.snd.fst) d2.snd.snd.snd.snd)) (some (Sum.inr (Ex.ret, { fr := [(2, AV.bool false)], bs := [], df := [] }))) (some (Sum.inl { fr := [(0, AV.slc x (List.map (mkV true Lease_tfs) l)), (5, AV.slc x (List.map (mkV true Lease_tfs) l)), (6, AV.int IntKind.i64 (↑(List.map (mkV true Lease_tfs) l).length : Int)), (7, AV.int IntKind.i64 (IntKind.i64.wrap (i + 1)))], bs := [], df := [] }))) (some (Sum.inl { fr := [(0, AV.slc x (List.map (mkV true Lease_tfs) l)), (5, AV.slc x (List.map (mkV true Lease_tfs) l)), (6, AV.int IntKind.i64 (↑(List.map (mkV true Lease_tfs) l).length : Int)), (7, AV.int IntKind.i64 (IntKind.i64.wrap (i + 1)))], bs := [], df := [] }))))))))))
  (some (Sum.inr (Ex.exit 0, { fr := [], bs := [], df := [] })))
theorem may_s_w (x : Bool) (l : List Lease_T) (i : Int) : may_s x l i = may_s_r x l i := by kernel_rfl

/-- Is one in its bounds? -/
def okE (w : Lease_T) : Bool := decide (1 ≤ w.1) && decide (w.1 ≤ 3) && (decide (1 ≤ w.2.1) && decide (w.2.1 ≤ 6)) && (decide (1 ≤ w.2.2.1) && decide (w.2.2.1 ≤ 2)) && decide (0 ≤ w.2.2.2)
def mayB (l : List Lease_T) (i : Nat) : Bool := okE (l.getD i zL) && (decide (i = 0) || decide (ordF (l.getD (i - 1) zL) (l.getD i zL) < 0))
def mayN (l : List Lease_T) : Nat → Nat → Bool
  | 0, _ => true
  | k + 1, i => mayB l i && mayN l k (i + 1)
def mayX (b : Bool) : Ex × St := if b = true then (.exit 0, { fr := [], bs := [], df := [] }) else (.ret, { fr := [(2, .bool false)], bs := [], df := [] })
theorem mal : (loopsOf 0 (codeOf Try.prog 19)).map (·.1) = [0] := by kernel_rfl
theorem mao : OneLoops Try.prog 19 := by unfold OneLoops; rw [mal]; decide
theorem maa : At 0 (codeOf Try.prog 19) 0 (.loop (bodyAt Try.prog 19 0)) := at_body mao (by rw [mal]; decide)
theorem may_e (x : Bool) (l : List Lease_T) (i : Nat) (hi : i < l.length) (hl : l.length ≤ 100000) : may_s x l i = if mayB l i = true then some (.inl (mayh x l ((i + 1 : Nat) : Int))) else some (.inr (mayX false)) := by
  refine (may_s_w x l i).trans ?_
  unfold may_s_r
  have e1 : IntKind.i64.wrap ((i : Int) + 1) = ((i + 1 : Nat) : Int) := by rw [w64 (by omega) (by omega)]; omega
  have at_ : ∀ {Q : Option (St ⊕ (Ex × St)) → Prop} {k : Lease_T → Option (St ⊕ (Ex × St))}, Q (k (l.getD i zL)) → Q (oK (elemAt true Lease_tfs (l.map (mkV true Lease_tfs)) i) k) := fun hk => oK_atq (fs := Lease_tfs) zL (by omega) (by simpa using hi) (by rw [Int.toNat_natCast]; exact hk)
  have yes : mayB l i = true → ∀ z : Option (St ⊕ (Ex × St)), z = some (.inl (mayh x l ((i + 1 : Nat) : Int))) → z = if mayB l i = true then some (.inl (mayh x l ((i + 1 : Nat) : Int))) else some (.inr (mayX false)) := fun h z hz => by rw [if_pos h]; exact hz
  have no : mayB l i = false → ∀ z : Option (St ⊕ (Ex × St)), z = some (.inr (mayX false)) → z = if mayB l i = true then some (.inl (mayh x l ((i + 1 : Nat) : Int))) else some (.inr (mayX false)) := fun h z hz => by rw [if_neg (by rw [h]; simp)]; exact hz
  rw [bK_pos (by simp; omega), e1]
  refine at_ (Q := fun z => z = _) ?_
  unfold mayB at yes no ⊢
  generalize l.getD i zL = w at yes no ⊢
  refine bK_iq (Q := fun z => z = _) (fun c1 => no (by rw [show okE w = false by unfold okE; rw [decide_eq_false (show ¬ (1 ≤ w.1) by omega)]; simp]; rfl) _ rfl) (fun c1 => ?_)
  refine bK_iq (Q := fun z => z = _) (fun c2 => no (by rw [show okE w = false by unfold okE; rw [decide_eq_false (show ¬ (w.1 ≤ 3) by omega)]; simp]; rfl) _ rfl) (fun c2 => ?_)
  refine bK_iq (Q := fun z => z = _) (fun c3 => no (by rw [show okE w = false by unfold okE; rw [decide_eq_false (show ¬ (1 ≤ w.2.1) by omega)]; simp]; rfl) _ rfl) (fun c3 => ?_)
  refine bK_iq (Q := fun z => z = _) (fun c4 => no (by rw [show okE w = false by unfold okE; rw [decide_eq_false (show ¬ (w.2.1 ≤ 6) by omega)]; simp]; rfl) _ rfl) (fun c4 => ?_)
  refine bK_iq (Q := fun z => z = _) (fun c5 => no (by rw [show okE w = false by unfold okE; rw [decide_eq_false (show ¬ (1 ≤ w.2.2.1) by omega)]; simp]; rfl) _ rfl) (fun c5 => ?_)
  refine bK_iq (Q := fun z => z = _) (fun c6 => no (by rw [show okE w = false by unfold okE; rw [decide_eq_false (show ¬ (w.2.2.1 ≤ 2) by omega)]; simp]; rfl) _ rfl) (fun c6 => ?_)
  refine bK_iq (Q := fun z => z = _) (fun c7 => no (by rw [show okE w = false by unfold okE; rw [decide_eq_false (show ¬ (0 ≤ w.2.2.2) by omega)]; simp]; rfl) _ rfl) (fun c7 => ?_)
  have ok : okE w = true := by
    unfold okE
    rw [decide_eq_true (show 1 ≤ w.1 by omega), decide_eq_true (show w.1 ≤ 3 by omega), decide_eq_true (show 1 ≤ w.2.1 by omega), decide_eq_true (show w.2.1 ≤ 6 by omega), decide_eq_true (show 1 ≤ w.2.2.1 by omega), decide_eq_true (show w.2.2.1 ≤ 2 by omega), decide_eq_true (show 0 ≤ w.2.2.2 by omega)]
    rfl
  rw [ok] at yes no ⊢
  refine bK_iq (Q := fun z => z = _) (fun c8 => ?_) (fun c8 => ?_)
  · rw [w64 (by omega) (by omega)]
    refine oK_atq (Q := fun z => z = _) (fs := Lease_tfs) zL (by omega) (by omega) ?_
    rw [show ((i : Int) - 1).toNat = i - 1 by omega]
    generalize l.getD (i - 1) zL = v at yes no ⊢
    refine oK_fsq (Q := fun z => z = _) orderS (v.1, v.2.1, v.2.2.1, v.2.2.2, w) trivial ?_
    refine bK_iq (Q := fun z => z = _) (fun c9 => no ?_ _ rfl) (fun c9 => yes ?_ _ rfl)
    · rw [decide_eq_false (show ¬ (i = 0) by omega), decide_eq_false (show ¬ (ordF v w < 0) by have c9' : 0 ≤ ordF v w := c9; omega)]; rfl
    · rw [decide_eq_false (show ¬ (i = 0) by omega), decide_eq_true (show ordF v w < 0 by have c9' : ¬ (0 ≤ ordF v w) := c9; omega)]; rfl
  · refine yes ?_ _ rfl
    rw [decide_eq_true (show i = 0 by omega)]; rfl
theorem may_run (x : Bool) (l : List Lease_T) (hl : l.length ≤ 100000) : ∀ (k i : Nat), i + k = l.length → ∀ (fu : Nat), k < fu → Runs' Try.prog cfg Q1 19 0 fu (mayh x l i) (mayX (mayN l k i))
  | 0, i, hi, fu + 1, hf => by
    refine Runs'.done (lp := LP0) LPok.none maa ((may_s_w x l i).trans ?_)
    unfold may_s_r
    rw [bK_neg (by simp; omega)]
    rfl
  | k + 1, i, hi, fu + 1, hf => by
    have hs := may_e x l i (by omega) hl
    unfold mayN
    cases hq : mayB l i with
    | true =>
      rw [hq, if_pos rfl] at hs
      exact Runs'.step (lp := LP0) LPok.none maa hs (may_run x l hl k (i + 1) (by omega) fu (by omega))
    | false =>
      rw [hq, if_neg (by simp)] at hs
      exact Runs'.done (lp := LP0) LPok.none maa hs
def mayHd (d : Bool × List Lease_T) : St := mayh d.1 d.2 0
theorem mayHd_inj (d d' : Bool × List Lease_T) (h : mayHd d = mayHd d') : d = d' := by
  obtain ⟨x, l⟩ := d
  obtain ⟨x', l'⟩ := d'
  simp only [mayHd, mayh, St.mk.injEq, List.cons.injEq, Prod.mk.injEq, AV.slc.injEq, and_true, true_and] at h
  rw [h.1.1, map_inj (fs := Lease_tfs) rfl h.1.2]
/-- May they be? -/
def mayQ (l : List Lease_T) : Bool := mayN l l.length 0
noncomputable def mayL : LP := LP.of mayHd (fun d => d.2.length ≤ 100000) fun d => .ite (mayQ d.2) (.leaf (.exit 0, { fr := [], bs := [], df := [] })) (.leaf (.ret, { fr := [(2, .bool false)], bs := [], df := [] }))
noncomputable def mayP : LPs := LPs.add LP0 19 0 mayL
theorem mayP_ok : LPok Try.prog cfg Q1 mayP 19 := LPok.addH LPok.none mao (by
  rintro ⟨x, l⟩ h
  have h2 : l.length ≤ 100000 := h
  have := may_run x l h2 l.length 0 (by omega) rounds (by simp only [rounds]; omega)
  exact this)
abbrev may_id : Nat := 19
abbrev may_sh : Shp := [none]
abbrev may_fs : List Lf := [.fl true Lease_tfs]
abbrev may_rsh : Shp := [none]
abbrev may_rfs : List Lf := [.fb]
noncomputable def may_r (l_x : Bool) (l : List Lease_T) : Option Ret :=
  oK (mayL.dec { fr := [(0, AV.slc l_x (List.map (mkV true Lease_tfs) l)), (5, AV.slc l_x (List.map (mkV true Lease_tfs) l)), (6, AV.int IntKind.i64 (↑(List.map (mkV true Lease_tfs) l).length : Int)), (7, AV.int IntKind.i64 0)], bs := [], df := [] }) fun (d0 : Bool × List (Int × Int × Int × Int)) => bK (mayQ d0.snd) (some { pan := false, res := AV.bool true, out := [], new := [] }) (some { pan := false, res := AV.bool false, out := [], new := [] })
theorem may_w (l_x : Bool) (l : List Lease_T) : unitQ Try.prog cfg Q1 mayP false 19 (groupA may_sh (Tu.mk may_fs (l_x, l))) [] = may_r l_x l := by kernel_rfl

noncomputable def mayS : FS := ⟨may_sh, may_fs, may_rsh, may_rfs, fun d => d.2.length ≤ 100000, fun d => mayQ d.2, none⟩
theorem mayO : ∀ d : Tu mayS.fs, mayS.pre d → CallOk Try.prog 19 (mayS.args d) [] (mayS.ret d) := by
  rintro ⟨x, l⟩ h
  refine CallOk.unit (fnOk Q1_ok 21) rfl mayP_ok.loops (o := false) (by show 0 ≤ 1000; decide) ((may_w x l).trans ?_)
  unfold may_r
  refine oK_lpq (Q := fun z => z = _) mayHd_inj (x, l) h ?_
  show bK (mayQ l) _ _ = some (mayS.out (mayQ l))
  cases mayQ l <;> rfl

end Go.Proofs.Ytbifdenekkijfaa
