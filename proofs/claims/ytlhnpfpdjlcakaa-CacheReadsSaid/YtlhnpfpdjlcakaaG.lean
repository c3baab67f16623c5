/- A part of the proof: contracts of functions. -/
import Derived.Test.YtlhnpfpdjlcakaaD
import Derived.Test.YtlhnpfpdjlcakaaAbCl

set_option linter.unusedVariables false
set_option linter.unusedSimpArgs false
set_option maxRecDepth 100000
namespace Go.Proofs.Ytlhnpfpdjlcakaa
open Go Go.Ab
noncomputable def PKg0 : PKs := PKe9.add 17 doneS.pk
theorem PKg0_ok : PKsOk Try.prog PKg0 := PKsOk.take PKe9_ok PKv11_ok rfl
noncomputable def PKg1 : PKs := PKg0.add 18 doneRS.pk
theorem PKg1_ok : PKsOk Try.prog PKg1 := PKsOk.take PKg0_ok PKv12_ok rfl
def eqHd (x : Bool) (a : List Write_T) (y : Bool) (b : List Write_T) (n i : Int) : St := { fr := [(0, .slc x (a.map (mkV true Write_tfs))), (1, .slc y (b.map (mkV true Write_tfs))), (12, .int .i64 n), (13, .int .i64 i)], bs := [], df := [] }
noncomputable def eq_s (x : Bool) (a : List Write_T) (y : Bool) (b : List Write_T) (n i : Int) : Option (St ⊕ (Ex × St)) := stepK Try.prog cfg PKg1 LP0 31 0 (eqHd x a y b n i)
noncomputable def eq_s_r (x : Bool) (a : List Write_T) (y : Bool) (b : List Write_T) (n : Int) (i : Int) : Option (St ⊕ Ex × St) :=
  bK (decide (i < n)) (oK (elemAt true Write_tfs (List.map (mkV true Write_tfs) a) i) fun (d0 : Int × List UInt8) => oK (elemAt true Write_tfs (List.map (mkV true Write_tfs) b) i) fun (d1 : Int × List UInt8) => bK (!(decide (d0.fst = d1.fst) && (decide (d0.snd = d1.snd) && true))) (some (Sum.inr (Ex.ret, { fr := [(4, AV.bool false)], bs := [], df := [] }))) (some (Sum.inl { fr := [(0, AV.slc x (List.map (mkV true Write_tfs) a)), (1, AV.slc y (List.map (mkV true Write_tfs) b)), (12, AV.int IntKind.i64 n), (13, AV.int IntKind.i64 (IntKind.i64.wrap (i + 1)))], bs := [], df := [] }))) (some (Sum.inr (Ex.exit 0, { fr := [], bs := [], df := [] })))
theorem eq_s_w (x : Bool) (a : List Write_T) (y : Bool) (b : List Write_T) (n : Int) (i : Int) : eq_s x a y b n i = eq_s_r x a y b n i := by kernel_rfl

def eqEnd : St := { fr := [], bs := [], df := [] }
def eqRet : St := { fr := [(4, .bool false)], bs := [], df := [] }
theorem loops31 : (loopsOf 0 (codeOf Try.prog 31)).map (·.1) = [0] := by kernel_rfl
theorem one31 : OneLoops Try.prog 31 := by unfold OneLoops; rw [loops31]; decide
theorem at31 : At 0 (codeOf Try.prog 31) 0 (.loop (bodyAt Try.prog 31 0)) := at_body one31 (by rw [loops31]; decide)
def eqX (e : Bool) : Ex × St := if e then (.exit 0, eqEnd) else (.ret, eqRet)
theorem eq_run (x : Bool) (a : List Write_T) (y : Bool) (b : List Write_T) (hl : a.length ≤ 100000) (hb : b.length = a.length) : ∀ (k i : Nat), i + k = a.length → ∀ (m : Nat), k < m →
    Runs' Try.prog cfg PKg1 31 0 m (eqHd x a y b (a.length : Int) i) (eqX (decide (a.drop i = b.drop i)))
  | 0, i, hi, m + 1, hm => by
    refine Runs'.done (lp := LP0) LPok.none at31 ((eq_s_w x a y b (a.length : Int) i).trans ?_)
    unfold eq_s_r
    rw [bK_neg (by exact decide_eq_false (by omega)), List.drop_of_length_le (show a.length ≤ i by omega), List.drop_of_length_le (show b.length ≤ i by omega), decide_eq_true rfl]
    rfl
  | k + 1, i, hi, m + 1, hm => by
    have ha : i < a.length := by omega
    have hb' : i < b.length := by omega
    have hs : eq_s x a y b (a.length : Int) i = (if a.getD i (0, []) = b.getD i (0, []) then some (.inl (eqHd x a y b (a.length : Int) ((i + 1 : Nat) : Int))) else some (.inr (.ret, eqRet))) := by
      refine (eq_s_w x a y b (a.length : Int) i).trans ?_
      unfold eq_s_r
      refine bK_tq (Q := fun z => z = _) (decide_eq_true (by omega)) ?_
      refine oK_atq (Q := fun z => z = _) (0, []) (by omega) (by simpa using ha) ?_
      refine oK_atq (Q := fun z => z = _) (0, []) (by omega) (by simpa using hb') ?_
      rw [Int.toNat_natCast]
      generalize a.getD i (0, []) = p
      generalize b.getD i (0, []) = q
      obtain ⟨p1, p2⟩ := p
      obtain ⟨q1, q2⟩ := q
      rw [w64 (by omega) (by omega)]
      by_cases e : (p1, p2) = (q1, q2)
      · rw [if_pos e]
        cases e
        rw [bK_neg (by simp)]
        rfl
      · rw [if_neg e, bK_pos (by simp only [Bool.and_true, Bool.not_eq_true', Bool.and_eq_false_imp, decide_eq_true_eq, decide_eq_false_iff_not]; intro h1 h2; exact e (by rw [h1, h2]))]
        rfl
    have ea : a.drop i = a.getD i (0, []) :: a.drop (i + 1) := by rw [List.drop_eq_getElem_cons ha, getD_at ha]
    have eb : b.drop i = b.getD i (0, []) :: b.drop (i + 1) := by rw [List.drop_eq_getElem_cons hb', getD_at hb']
    by_cases e : a.getD i (0, []) = b.getD i (0, [])
    · rw [if_pos e] at hs
      have : decide (a.drop i = b.drop i) = decide (a.drop (i + 1) = b.drop (i + 1)) := by
        rw [ea, eb, e]; simp
      rw [this]
      exact Runs'.step (lp := LP0) LPok.none at31 hs (eq_run x a y b hl hb k (i + 1) (by omega) m (by omega))
    · rw [if_neg e] at hs
      have : decide (a.drop i = b.drop i) = false := by
        rw [ea, eb]; exact decide_eq_false (fun h => e (List.cons.inj h).1)
      rw [this]
      exact Runs'.done (lp := LP0) LPok.none at31 hs
abbrev EqD : Type := Bool × List Write_T × Bool × List Write_T
def eqH (d : EqD) : St := eqHd d.1 d.2.1 d.2.2.1 d.2.2.2 ((d.2.1.map (mkV true Write_tfs)).length : Int) 0
noncomputable def eqL : LP := LP.of (D := EqD) eqH (fun d => d.2.1.length ≤ 100000 ∧ d.2.2.2.length = d.2.1.length) fun d => .ite (sameQ d.2.1 d.2.2.2) (.leaf (.exit 0, eqEnd)) (.leaf (.ret, eqRet))
noncomputable def LPq : LPs := LPs.add LP0 31 0 eqL
theorem LPq_ok : LPok Try.prog cfg PKg1 LPq 31 :=
  LPok.addH LPok.none one31 fun d h => by
    have := eq_run d.1 d.2.1 d.2.2.1 d.2.2.2 h.1 h.2 d.2.1.length 0 (by omega) rounds (by have : d.2.1.length ≤ 100000 := h.1; simp only [rounds]; omega)
    simp only [List.drop_zero] at this
    have e : ((List.map (mkV true Write_tfs) d.2.1).length : Int) = (d.2.1.length : Int) := by rw [List.length_map]
    unfold eqH
    rw [e]
    refine cast ?_ this
    congr 1
theorem eqH_inj (d d' : EqD) (h : eqH d = eqH d') : d = d' := by
  obtain ⟨x, a, y, b⟩ := d
  obtain ⟨x', a', y', b'⟩ := d'
  simp only [eqH, eqHd, St.mk.injEq, List.cons.injEq, Prod.mk.injEq, AV.slc.injEq, and_true, true_and] at h
  obtain ⟨⟨h1, h2⟩, ⟨h3, h4⟩, _⟩ := h
  rw [h1, map_inj (fs := Write_tfs) rfl h2, h3, map_inj (fs := Write_tfs) rfl h4]
abbrev equalW_id : Nat := 31
abbrev equalW_sh : Shp := [none, none]
abbrev equalW_fs : List Lf := [.fl true Write_tfs, .fl true Write_tfs]
abbrev equalW_rsh : Shp := [none]
abbrev equalW_rfs : List Lf := [.fb]
noncomputable def equalW_r (s1_x : Bool) (s1 : List Write_T) (s2_x : Bool) (s2 : List Write_T) : Option Ret :=
  bK (!decide ((↑(List.map (mkV true Write_tfs) s1).length : Int) = (↑(List.map (mkV true Write_tfs) s2).length : Int))) (some { pan := false, res := AV.bool false, out := [], new := [] }) (oK (eqL.dec { fr := [(0, AV.slc s1_x (List.map (mkV true Write_tfs) s1)), (1, AV.slc s2_x (List.map (mkV true Write_tfs) s2)), (12, AV.int IntKind.i64 (↑(List.map (mkV true Write_tfs) s1).length : Int)), (13, AV.int IntKind.i64 0)], bs := [], df := [] }) fun (d0 : Bool × List (Int × List UInt8) × Bool × List (Int × List UInt8)) => bK (sameQ d0.snd.fst d0.snd.snd.snd) (some { pan := false, res := AV.bool true, out := [], new := [] }) (some { pan := false, res := AV.bool false, out := [], new := [] }))
theorem equalW_w (s1_x : Bool) (s1 : List Write_T) (s2_x : Bool) (s2 : List Write_T) : unitQ Try.prog cfg PKg1 LPq false 31 (groupA equalW_sh (Tu.mk equalW_fs ((s1_x, s1), (s2_x, s2)))) [] = equalW_r s1_x s1 s2_x s2 := by kernel_rfl

def equalWS : FS := ⟨equalW_sh, equalW_fs, equalW_rsh, equalW_rfs, fun d => d.1.2.length ≤ 100000, fun d => sameQ d.1.2 d.2.2, none⟩
theorem equalW_v (s1_x : Bool) (s1 : List Write_T) (s2_x : Bool) (s2 : List Write_T) (h : equalWS.pre ((s1_x, s1), (s2_x, s2))) : equalW_r s1_x s1 s2_x s2 = some (equalWS.ret ((s1_x, s1), (s2_x, s2))) := by
  have h' : s1.length ≤ 100000 := h
  show _ = some (equalWS.out (sameQ s1 s2))
  unfold equalW_r
  refine bK_n (fun c1 => ?_) (fun c1 => ?_)
  · have : sameQ s1 s2 = false := decide_eq_false (by intro e; rw [e] at c1; exact c1 rfl)
    rw [this]; rfl
  · refine oK_lpq (Q := fun z => z = _) eqH_inj (s1_x, s1, s2_x, s2) ⟨h', by rw [List.length_map, List.length_map] at c1; show s2.length = s1.length; omega⟩ ?_
    show bK (sameQ s1 s2) _ _ = _
    cases sameQ s1 s2 <;> rfl
theorem equalW_ok : ∀ (d : Tu equalW_fs), equalWS.pre d → unitQ Try.prog cfg PKg1 LPq false 31 (equalWS.args d) [] = some (equalWS.ret d)
  | ((s1_x, s1), (s2_x, s2)), h => (equalW_w s1_x s1 s2_x s2).trans (equalW_v s1_x s1 s2_x s2 h)
noncomputable def PKg2 : PKs := PKg1.add 31 equalWS.pk
theorem PKg2_ok : PKsOk Try.prog PKg2 := PKsOk.fs (cfg := cfg) PKg1_ok (fnOk PKg1_ok 21) 31 rfl LPq (LPq_ok.loops) equalWS equalW_ok

abbrev sameX_id : Nat := 11
abbrev sameX_sh : Shp := [some 8, some 8]
abbrev sameX_fs : List Lf := [.fi .i64, .fi .i64, .fi .i64, .fs, .fl true Write_tfs, .fi .i64, .fb, .fb, .fi .i64, .fi .i64, .fi .i64, .fs, .fl true Write_tfs, .fi .i64, .fb, .fb]
abbrev sameX_rsh : Shp := [none]
abbrev sameX_rfs : List Lf := [.fb]
noncomputable def sameX_r (a_Mode : Int) (a_Until : Int) (a_Ver : Int) (a_Body : List UInt8) (a_Dirty_x : Bool) (a_Dirty : List Write_T) (a_Sent : Int) (a_Called : Bool) (a_Lost : Bool) (b_Mode : Int) (b_Until : Int) (b_Ver : Int) (b_Body : List UInt8) (b_Dirty_x : Bool) (b_Dirty : List Write_T) (b_Sent : Int) (b_Called : Bool) (b_Lost : Bool) : Option Ret :=
  bK (decide (a_Mode = b_Mode)) (bK (decide (a_Until = b_Until)) (bK (decide (a_Ver = b_Ver)) (bK (decide (a_Body = b_Body)) (oK (equalWS.dec [AV.slc a_Dirty_x (List.map (mkV true Write_tfs) a_Dirty), AV.slc b_Dirty_x (List.map (mkV true Write_tfs) b_Dirty)] []) fun (d0 : (Bool × List (Int × List UInt8)) × Bool × List (Int × List UInt8)) => bK (sameQ d0.fst.snd d0.snd.snd) (bK (decide (a_Sent = b_Sent)) (bK (a_Called == b_Called) (some { pan := false, res := AV.bool (a_Lost == b_Lost), out := [], new := [] }) (some { pan := false, res := AV.bool false, out := [], new := [] })) (some { pan := false, res := AV.bool false, out := [], new := [] })) (some { pan := false, res := AV.bool false, out := [], new := [] })) (some { pan := false, res := AV.bool false, out := [], new := [] })) (some { pan := false, res := AV.bool false, out := [], new := [] })) (some { pan := false, res := AV.bool false, out := [], new := [] })) (some { pan := false, res := AV.bool false, out := [], new := [] })
theorem sameX_w (a_Mode : Int) (a_Until : Int) (a_Ver : Int) (a_Body : List UInt8) (a_Dirty_x : Bool) (a_Dirty : List Write_T) (a_Sent : Int) (a_Called : Bool) (a_Lost : Bool) (b_Mode : Int) (b_Until : Int) (b_Ver : Int) (b_Body : List UInt8) (b_Dirty_x : Bool) (b_Dirty : List Write_T) (b_Sent : Int) (b_Called : Bool) (b_Lost : Bool) : unitQ Try.prog cfg PKg2 LP0 false 11 (groupA sameX_sh (Tu.mk sameX_fs (a_Mode, a_Until, a_Ver, a_Body, (a_Dirty_x, a_Dirty), a_Sent, a_Called, a_Lost, b_Mode, b_Until, b_Ver, b_Body, (b_Dirty_x, b_Dirty), b_Sent, b_Called, b_Lost))) [] = sameX_r a_Mode a_Until a_Ver a_Body a_Dirty_x a_Dirty a_Sent a_Called a_Lost b_Mode b_Until b_Ver b_Body b_Dirty_x b_Dirty b_Sent b_Called b_Lost := by kernel_rfl

noncomputable def sameXS : FS := ⟨sameX_sh, sameX_fs, sameX_rsh, sameX_rfs, fun d => (dOf (sA d)).length ≤ 100000, fun d => sameCF (sA d) (sB d), none⟩
theorem sameX_v (a_Mode : Int) (a_Until : Int) (a_Ver : Int) (a_Body : List UInt8) (a_Dirty_x : Bool) (a_Dirty : List Write_T) (a_Sent : Int) (a_Called : Bool) (a_Lost : Bool) (b_Mode : Int) (b_Until : Int) (b_Ver : Int) (b_Body : List UInt8) (b_Dirty_x : Bool) (b_Dirty : List Write_T) (b_Sent : Int) (b_Called : Bool) (b_Lost : Bool) (h : sameXS.pre (a_Mode, a_Until, a_Ver, a_Body, (a_Dirty_x, a_Dirty), a_Sent, a_Called, a_Lost, b_Mode, b_Until, b_Ver, b_Body, (b_Dirty_x, b_Dirty), b_Sent, b_Called, b_Lost)) : sameX_r a_Mode a_Until a_Ver a_Body a_Dirty_x a_Dirty a_Sent a_Called a_Lost b_Mode b_Until b_Ver b_Body b_Dirty_x b_Dirty b_Sent b_Called b_Lost = some (sameXS.ret (a_Mode, a_Until, a_Ver, a_Body, (a_Dirty_x, a_Dirty), a_Sent, a_Called, a_Lost, b_Mode, b_Until, b_Ver, b_Body, (b_Dirty_x, b_Dirty), b_Sent, b_Called, b_Lost)) := by
  have h' : a_Dirty.length ≤ 100000 := h
  show _ = some (sameXS.out (sameCF (a_Mode, a_Until, a_Ver, a_Body, (a_Dirty_x, a_Dirty), a_Sent, a_Called, a_Lost) (b_Mode, b_Until, b_Ver, b_Body, (b_Dirty_x, b_Dirty), b_Sent, b_Called, b_Lost)))
  have hE : sameCF (a_Mode, a_Until, a_Ver, a_Body, (a_Dirty_x, a_Dirty), a_Sent, a_Called, a_Lost) (b_Mode, b_Until, b_Ver, b_Body, (b_Dirty_x, b_Dirty), b_Sent, b_Called, b_Lost) = decide (a_Mode = b_Mode ∧ a_Until = b_Until ∧ a_Ver = b_Ver ∧ a_Body = b_Body ∧ a_Dirty = b_Dirty ∧ a_Sent = b_Sent ∧ a_Called = b_Called ∧ a_Lost = b_Lost) := by
    unfold sameCF normC
    refine decide_eq_decide.2 ?_
    simp only [Prod.mk.injEq]
  rw [hE]
  unfold sameX_r
  have no : ∀ {p : Prop} [Decidable p], ¬ p → some ({ pan := false, res := AV.bool false, out := [], new := [] } : Ret) = some (sameXS.out (decide p)) := fun h => by rw [decide_eq_false h]; rfl
  refine bK_i (fun c1 => bK_i (fun c2 => bK_i (fun c3 => bK_i (fun c4 => ?_) (fun c => no (by simp [c]))) (fun c => no (by simp [c]))) (fun c => no (by simp [c]))) (fun c => no (by simp [c]))
  refine oK_fsq (Q := fun z => z = _) equalWS ((a_Dirty_x, a_Dirty), (b_Dirty_x, b_Dirty)) h' ?_
  refine bK_b (fun c5 => bK_i (fun c6 => bK_b (fun c7 => ?_) (fun c => no (by rintro ⟨_, _, _, _, _, _, h7, _⟩; rw [h7] at c; simp at c))) (fun c => no (by simp [c]))) (fun c => no (by rintro ⟨_, _, _, _, h5, _⟩; exact of_decide_eq_false c h5))
  have e5 : a_Dirty = b_Dirty := of_decide_eq_true c5
  have e7 : a_Called = b_Called := eq_of_beq c7
  subst c1 c2 c3 c4 e5 c6 e7
  simp only [true_and]
  cases a_Lost <;> cases b_Lost <;> rfl
theorem sameX_ok : ∀ (d : Tu sameX_fs), sameXS.pre d → unitQ Try.prog cfg PKg2 LP0 false 11 (sameXS.args d) [] = some (sameXS.ret d)
  | (a_Mode, a_Until, a_Ver, a_Body, (a_Dirty_x, a_Dirty), a_Sent, a_Called, a_Lost, b_Mode, b_Until, b_Ver, b_Body, (b_Dirty_x, b_Dirty), b_Sent, b_Called, b_Lost), h => (sameX_w a_Mode a_Until a_Ver a_Body a_Dirty_x a_Dirty a_Sent a_Called a_Lost b_Mode b_Until b_Ver b_Body b_Dirty_x b_Dirty b_Sent b_Called b_Lost).trans (sameX_v a_Mode a_Until a_Ver a_Body a_Dirty_x a_Dirty a_Sent a_Called a_Lost b_Mode b_Until b_Ver b_Body b_Dirty_x b_Dirty b_Sent b_Called b_Lost h)
noncomputable def PKg3 : PKs := PKg2.add 11 sameXS.pk
theorem PKg3_ok : PKsOk Try.prog PKg3 := PKsOk.fs (cfg := cfg) PKg2_ok (fnOk PKg2_ok 21) 11 rfl LP0 fLoops_none sameXS sameX_ok

abbrev cacheAll_id : Nat := 3
abbrev cacheAll_sh : Shp := [none, none, none, none, none, none, none, none, some 2]
abbrev cacheAll_fs : List Lf := [.fl false [.fi .u8], .fl false [.fi .u8], .fi .i64, .fi .u8, .fi .i64, .fi .i64, .fi .i64, .fs, .fi .i64, .fs]
abbrev cacheAll_rsh : Shp := [none]
abbrev cacheAll_rfs : List Lf := [.fb]
noncomputable def cacheAll_r (picks_x : Bool) (picks : List Int) (more_x : Bool) (more : List Int) (now : Int) (near : Int) (mode : Int) (until_ : Int) (ver : Int) (body : List UInt8) (wild_Off : Int) (wild_B : List UInt8) : Option Ret :=
  oK (begunS.dec [] []) fun (d0 : PUnit) =>
  bK (decide (40 < (↑(List.map (mkV false [Lf.fi IntKind.u8]) picks).length : Int))) (some { pan := false, res := AV.bool true, out := [], new := [] })
    (bK (decide (40 < (↑(List.map (mkV false [Lf.fi IntKind.u8]) more).length : Int))) (some { pan := false, res := AV.bool true, out := [], new := [] })
      (bK (decide (40 < (↑body.length : Int))) (some { pan := false, res := AV.bool true, out := [], new := [] })
        (bK (decide (40 < (↑wild_B.length : Int))) (some { pan := false, res := AV.bool true, out := [], new := [] })
          (oK (cachePS.dec [AV.ptr 1000000 0 0 0] [{ v := 0, k := BK.box, fz := false, sz := 0, es := [AV.slc picks_x (List.map (mkV false [Lf.fi IntKind.u8]) picks), AV.int IntKind.i64 0] }]) fun (d1 : ((Bool × List Int) × Int) × PUnit) =>
            oK (cachePS.dec [AV.ptr 1000000 0 0 0] [{ v := 0, k := BK.box, fz := false, sz := 0, es := [AV.slc more_x (List.map (mkV false [Lf.fi IntKind.u8]) more), AV.int IntKind.i64 0] }]) fun (d2 : ((Bool × List Int) × Int) × PUnit) =>
              oK (sameXS.dec [AV.agg [AV.int IntKind.i64 (cacheF d1.fst).snd.fst, AV.int IntKind.i64 (cacheF d1.fst).snd.snd.fst, AV.int IntKind.i64 (cacheF d1.fst).snd.snd.snd.fst, AV.str (cacheF d1.fst).snd.snd.snd.snd.fst, AV.slc (cacheF d1.fst).snd.snd.snd.snd.snd.fst.fst (List.map (mkV true Write_tfs) (cacheF d1.fst).snd.snd.snd.snd.snd.fst.snd), AV.int IntKind.i64 (cacheF d1.fst).snd.snd.snd.snd.snd.snd.fst, AV.bool (cacheF d1.fst).snd.snd.snd.snd.snd.snd.snd.fst, AV.bool (cacheF d1.fst).snd.snd.snd.snd.snd.snd.snd.snd], AV.agg [AV.int IntKind.i64 (cacheF d2.fst).snd.fst, AV.int IntKind.i64 (cacheF d2.fst).snd.snd.fst, AV.int IntKind.i64 (cacheF d2.fst).snd.snd.snd.fst, AV.str (cacheF d2.fst).snd.snd.snd.snd.fst, AV.slc (cacheF d2.fst).snd.snd.snd.snd.snd.fst.fst (List.map (mkV true Write_tfs) (cacheF d2.fst).snd.snd.snd.snd.snd.fst.snd), AV.int IntKind.i64 (cacheF d2.fst).snd.snd.snd.snd.snd.snd.fst, AV.bool (cacheF d2.fst).snd.snd.snd.snd.snd.snd.snd.fst, AV.bool (cacheF d2.fst).snd.snd.snd.snd.snd.snd.snd.snd]] []) fun (d3 : Int × Int × Int × List UInt8 × (Bool × List (Int × List UInt8)) × Int × Bool × Bool × Int × Int × Int × List UInt8 × (Bool × List (Int × List UInt8)) × Int × Bool × Bool) =>
                oK (sameCS.dec [AV.agg [AV.int IntKind.i64 (cacheF d1.fst).snd.fst, AV.int IntKind.i64 (cacheF d1.fst).snd.snd.fst, AV.int IntKind.i64 (cacheF d1.fst).snd.snd.snd.fst, AV.str (cacheF d1.fst).snd.snd.snd.snd.fst, AV.slc (cacheF d1.fst).snd.snd.snd.snd.snd.fst.fst (List.map (mkV true Write_tfs) (cacheF d1.fst).snd.snd.snd.snd.snd.fst.snd), AV.int IntKind.i64 (cacheF d1.fst).snd.snd.snd.snd.snd.snd.fst, AV.bool (cacheF d1.fst).snd.snd.snd.snd.snd.snd.snd.fst, AV.bool (cacheF d1.fst).snd.snd.snd.snd.snd.snd.snd.snd], AV.agg [AV.int IntKind.i64 (cacheF d2.fst).snd.fst, AV.int IntKind.i64 (cacheF d2.fst).snd.snd.fst, AV.int IntKind.i64 (cacheF d2.fst).snd.snd.snd.fst, AV.str (cacheF d2.fst).snd.snd.snd.snd.fst, AV.slc (cacheF d2.fst).snd.snd.snd.snd.snd.fst.fst (List.map (mkV true Write_tfs) (cacheF d2.fst).snd.snd.snd.snd.snd.fst.snd), AV.int IntKind.i64 (cacheF d2.fst).snd.snd.snd.snd.snd.snd.fst, AV.bool (cacheF d2.fst).snd.snd.snd.snd.snd.snd.snd.fst, AV.bool (cacheF d2.fst).snd.snd.snd.snd.snd.snd.snd.snd]] []) fun (d4 : Int × Int × Int × List UInt8 × (Bool × List (Int × List UInt8)) × Int × Bool × Bool × Int × Int × Int × List UInt8 × (Bool × List (Int × List UInt8)) × Int × Bool × Bool) =>
                  bK (!sameCF (sA d3) (sB d3) == sameCF (sA d4) (sB d4)) (some { pan := false, res := AV.bool false, out := [], new := [] })
                    (oK (viewCS.dec [AV.agg [AV.int IntKind.i64 (cacheF d1.fst).snd.fst, AV.int IntKind.i64 (cacheF d1.fst).snd.snd.fst, AV.int IntKind.i64 (cacheF d1.fst).snd.snd.snd.fst, AV.str (cacheF d1.fst).snd.snd.snd.snd.fst, AV.slc (cacheF d1.fst).snd.snd.snd.snd.snd.fst.fst (List.map (mkV true Write_tfs) (cacheF d1.fst).snd.snd.snd.snd.snd.fst.snd), AV.int IntKind.i64 (cacheF d1.fst).snd.snd.snd.snd.snd.snd.fst, AV.bool (cacheF d1.fst).snd.snd.snd.snd.snd.snd.snd.fst, AV.bool (cacheF d1.fst).snd.snd.snd.snd.snd.snd.snd.snd]] []) fun (d5 : Int × Int × Int × List UInt8 × (Bool × List (Int × List UInt8)) × Int × Bool × Bool) =>
                      oK (viewRS.dec [AV.agg [AV.int IntKind.i64 (cacheF d1.fst).snd.fst, AV.int IntKind.i64 (cacheF d1.fst).snd.snd.fst, AV.int IntKind.i64 (cacheF d1.fst).snd.snd.snd.fst, AV.str (cacheF d1.fst).snd.snd.snd.snd.fst, AV.slc (cacheF d1.fst).snd.snd.snd.snd.snd.fst.fst (List.map (mkV true Write_tfs) (cacheF d1.fst).snd.snd.snd.snd.snd.fst.snd), AV.int IntKind.i64 (cacheF d1.fst).snd.snd.snd.snd.snd.snd.fst, AV.bool (cacheF d1.fst).snd.snd.snd.snd.snd.snd.snd.fst, AV.bool (cacheF d1.fst).snd.snd.snd.snd.snd.snd.snd.snd]] []) fun (d6 : Int × Int × Int × List UInt8 × (Bool × List (Int × List UInt8)) × Int × Bool × Bool) =>
                        bK (!decide (allF (cA d5).snd.snd.snd.fst (dOf d5) = allF (cA d6).snd.snd.snd.fst (dOf d6))) (some { pan := false, res := AV.bool false, out := [], new := [] })
                          (oK (resetCS.dec [AV.agg [AV.int IntKind.i64 (cacheF d1.fst).snd.fst, AV.int IntKind.i64 (cacheF d1.fst).snd.snd.fst, AV.int IntKind.i64 (cacheF d1.fst).snd.snd.snd.fst, AV.str (cacheF d1.fst).snd.snd.snd.snd.fst, AV.slc (cacheF d1.fst).snd.snd.snd.snd.snd.fst.fst (List.map (mkV true Write_tfs) (cacheF d1.fst).snd.snd.snd.snd.snd.fst.snd), AV.int IntKind.i64 (cacheF d1.fst).snd.snd.snd.snd.snd.snd.fst, AV.bool (cacheF d1.fst).snd.snd.snd.snd.snd.snd.snd.fst, AV.bool (cacheF d1.fst).snd.snd.snd.snd.snd.snd.snd.snd]] []) fun (d7 : Int × Int × Int × List UInt8 × (Bool × List (Int × List UInt8)) × Int × Bool × Bool) =>
                            oK (resetRS.dec [AV.agg [AV.int IntKind.i64 (cacheF d1.fst).snd.fst, AV.int IntKind.i64 (cacheF d1.fst).snd.snd.fst, AV.int IntKind.i64 (cacheF d1.fst).snd.snd.snd.fst, AV.str (cacheF d1.fst).snd.snd.snd.snd.fst, AV.slc (cacheF d1.fst).snd.snd.snd.snd.snd.fst.fst (List.map (mkV true Write_tfs) (cacheF d1.fst).snd.snd.snd.snd.snd.fst.snd), AV.int IntKind.i64 (cacheF d1.fst).snd.snd.snd.snd.snd.snd.fst, AV.bool (cacheF d1.fst).snd.snd.snd.snd.snd.snd.snd.fst, AV.bool (cacheF d1.fst).snd.snd.snd.snd.snd.snd.snd.snd]] []) fun (d8 : Int × Int × Int × List UInt8 × (Bool × List (Int × List UInt8)) × Int × Bool × Bool) =>
                              oK (sameCS.dec [AV.agg [AV.int IntKind.i64 (resetF d7).fst, AV.int IntKind.i64 (resetF d7).snd.fst, AV.int IntKind.i64 (resetF d7).snd.snd.fst, AV.str [], AV.slc true [], AV.int IntKind.i64 (resetF d7).snd.snd.snd.snd.snd.fst, AV.bool false, AV.bool (resetF d7).snd.snd.snd.snd.snd.snd.snd], AV.agg [AV.int IntKind.i64 (resetF d8).fst, AV.int IntKind.i64 (resetF d8).snd.fst, AV.int IntKind.i64 (resetF d8).snd.snd.fst, AV.str [], AV.slc true [], AV.int IntKind.i64 (resetF d8).snd.snd.snd.snd.snd.fst, AV.bool false, AV.bool (resetF d8).snd.snd.snd.snd.snd.snd.snd]] []) fun (d9 : Int × Int × Int × List UInt8 × (Bool × List (Int × List UInt8)) × Int × Bool × Bool × Int × Int × Int × List UInt8 × (Bool × List (Int × List UInt8)) × Int × Bool × Bool) =>
                                bK (!sameCF (sA d9) (sB d9)) (some { pan := false, res := AV.bool false, out := [], new := [] })
                                  (oK (doneS.dec [AV.agg [AV.int IntKind.i64 (cacheF d1.fst).snd.fst, AV.int IntKind.i64 (cacheF d1.fst).snd.snd.fst, AV.int IntKind.i64 (cacheF d1.fst).snd.snd.snd.fst, AV.str (cacheF d1.fst).snd.snd.snd.snd.fst, AV.slc (cacheF d1.fst).snd.snd.snd.snd.snd.fst.fst (List.map (mkV true Write_tfs) (cacheF d1.fst).snd.snd.snd.snd.snd.fst.snd), AV.int IntKind.i64 (cacheF d1.fst).snd.snd.snd.snd.snd.snd.fst, AV.bool (cacheF d1.fst).snd.snd.snd.snd.snd.snd.snd.fst, AV.bool (cacheF d1.fst).snd.snd.snd.snd.snd.snd.snd.snd], AV.int IntKind.i64 ver] []) fun (d10 : Int × Int × Int × List UInt8 × (Bool × List (Int × List UInt8)) × Int × Bool × Bool × Int) =>
                                    oK (doneRS.dec [AV.agg [AV.int IntKind.i64 (cacheF d1.fst).snd.fst, AV.int IntKind.i64 (cacheF d1.fst).snd.snd.fst, AV.int IntKind.i64 (cacheF d1.fst).snd.snd.snd.fst, AV.str (cacheF d1.fst).snd.snd.snd.snd.fst, AV.slc (cacheF d1.fst).snd.snd.snd.snd.snd.fst.fst (List.map (mkV true Write_tfs) (cacheF d1.fst).snd.snd.snd.snd.snd.fst.snd), AV.int IntKind.i64 (cacheF d1.fst).snd.snd.snd.snd.snd.snd.fst, AV.bool (cacheF d1.fst).snd.snd.snd.snd.snd.snd.snd.fst, AV.bool (cacheF d1.fst).snd.snd.snd.snd.snd.snd.snd.snd], AV.int IntKind.i64 ver] []) fun (d11 : Int × Int × Int × List UInt8 × (Bool × List (Int × List UInt8)) × Int × Bool × Bool × Int) =>
                                      oK (sameCS.dec [AV.agg [AV.int IntKind.i64 (doneCF (cOf d10) (nOf d10)).fst, AV.int IntKind.i64 (doneCF (cOf d10) (nOf d10)).snd.fst, AV.int IntKind.i64 (doneCF (cOf d10) (nOf d10)).snd.snd.fst, AV.str (doneCF (cOf d10) (nOf d10)).snd.snd.snd.fst, AV.slc (doneCF (cOf d10) (nOf d10)).snd.snd.snd.snd.fst.fst (List.map (mkV true Write_tfs) (doneCF (cOf d10) (nOf d10)).snd.snd.snd.snd.fst.snd), AV.int IntKind.i64 (doneCF (cOf d10) (nOf d10)).snd.snd.snd.snd.snd.fst, AV.bool (doneCF (cOf d10) (nOf d10)).snd.snd.snd.snd.snd.snd.fst, AV.bool (doneCF (cOf d10) (nOf d10)).snd.snd.snd.snd.snd.snd.snd], AV.agg [AV.int IntKind.i64 (doneXF (cOf d11) (nOf d11)).fst, AV.int IntKind.i64 (doneXF (cOf d11) (nOf d11)).snd.fst, AV.int IntKind.i64 (doneXF (cOf d11) (nOf d11)).snd.snd.fst, AV.str (doneXF (cOf d11) (nOf d11)).snd.snd.snd.fst, AV.slc (doneXF (cOf d11) (nOf d11)).snd.snd.snd.snd.fst.fst (List.map (mkV true Write_tfs) (doneXF (cOf d11) (nOf d11)).snd.snd.snd.snd.fst.snd), AV.int IntKind.i64 (doneXF (cOf d11) (nOf d11)).snd.snd.snd.snd.snd.fst, AV.bool (doneXF (cOf d11) (nOf d11)).snd.snd.snd.snd.snd.snd.fst, AV.bool (doneXF (cOf d11) (nOf d11)).snd.snd.snd.snd.snd.snd.snd]] []) fun (d12 : Int × Int × Int × List UInt8 × (Bool × List (Int × List UInt8)) × Int × Bool × Bool × Int × Int × Int × List UInt8 × (Bool × List (Int × List UInt8)) × Int × Bool × Bool) =>
                                        bK (!sameCF (sA d12) (sB d12)) (some { pan := false, res := AV.bool false, out := [], new := [] })
                                          (oK (validS.dec [AV.agg [AV.int IntKind.i64 (cacheF d1.fst).snd.fst, AV.int IntKind.i64 (cacheF d1.fst).snd.snd.fst, AV.int IntKind.i64 (cacheF d1.fst).snd.snd.snd.fst, AV.str (cacheF d1.fst).snd.snd.snd.snd.fst, AV.slc (cacheF d1.fst).snd.snd.snd.snd.snd.fst.fst (List.map (mkV true Write_tfs) (cacheF d1.fst).snd.snd.snd.snd.snd.fst.snd), AV.int IntKind.i64 (cacheF d1.fst).snd.snd.snd.snd.snd.snd.fst, AV.bool (cacheF d1.fst).snd.snd.snd.snd.snd.snd.snd.fst, AV.bool (cacheF d1.fst).snd.snd.snd.snd.snd.snd.snd.snd], AV.int IntKind.i64 now] []) fun (d13 : Int × Int × Int × List UInt8 × (Bool × List (Int × List UInt8)) × Int × Bool × Bool × Int) =>
                                            oK (validXS.dec [AV.agg [AV.int IntKind.i64 (cacheF d1.fst).snd.fst, AV.int IntKind.i64 (cacheF d1.fst).snd.snd.fst, AV.int IntKind.i64 (cacheF d1.fst).snd.snd.snd.fst, AV.str (cacheF d1.fst).snd.snd.snd.snd.fst, AV.slc (cacheF d1.fst).snd.snd.snd.snd.snd.fst.fst (List.map (mkV true Write_tfs) (cacheF d1.fst).snd.snd.snd.snd.snd.fst.snd), AV.int IntKind.i64 (cacheF d1.fst).snd.snd.snd.snd.snd.snd.fst, AV.bool (cacheF d1.fst).snd.snd.snd.snd.snd.snd.snd.fst, AV.bool (cacheF d1.fst).snd.snd.snd.snd.snd.snd.snd.snd], AV.int IntKind.i64 now] []) fun (d14 : Int × Int × Int × List UInt8 × (Bool × List (Int × List UInt8)) × Int × Bool × Bool × Int) =>
                                              bK (!decide (validF (cOf d13) (nOf d13) = validF (cOf d14) (nOf d14))) (some { pan := false, res := AV.bool false, out := [], new := [] })
                                                (oK (lapseS.dec [AV.agg [AV.int IntKind.i64 (cacheF d1.fst).snd.fst, AV.int IntKind.i64 (cacheF d1.fst).snd.snd.fst, AV.int IntKind.i64 (cacheF d1.fst).snd.snd.snd.fst, AV.str (cacheF d1.fst).snd.snd.snd.snd.fst, AV.slc (cacheF d1.fst).snd.snd.snd.snd.snd.fst.fst (List.map (mkV true Write_tfs) (cacheF d1.fst).snd.snd.snd.snd.snd.fst.snd), AV.int IntKind.i64 (cacheF d1.fst).snd.snd.snd.snd.snd.snd.fst, AV.bool (cacheF d1.fst).snd.snd.snd.snd.snd.snd.snd.fst, AV.bool (cacheF d1.fst).snd.snd.snd.snd.snd.snd.snd.snd], AV.int IntKind.i64 now] []) fun (d15 : Int × Int × Int × List UInt8 × (Bool × List (Int × List UInt8)) × Int × Bool × Bool × Int) =>
                                                  oK (lapseRS.dec [AV.agg [AV.int IntKind.i64 (cacheF d1.fst).snd.fst, AV.int IntKind.i64 (cacheF d1.fst).snd.snd.fst, AV.int IntKind.i64 (cacheF d1.fst).snd.snd.snd.fst, AV.str (cacheF d1.fst).snd.snd.snd.snd.fst, AV.slc (cacheF d1.fst).snd.snd.snd.snd.snd.fst.fst (List.map (mkV true Write_tfs) (cacheF d1.fst).snd.snd.snd.snd.snd.fst.snd), AV.int IntKind.i64 (cacheF d1.fst).snd.snd.snd.snd.snd.snd.fst, AV.bool (cacheF d1.fst).snd.snd.snd.snd.snd.snd.snd.fst, AV.bool (cacheF d1.fst).snd.snd.snd.snd.snd.snd.snd.snd], AV.int IntKind.i64 now] []) fun (d16 : Int × Int × Int × List UInt8 × (Bool × List (Int × List UInt8)) × Int × Bool × Bool × Int) =>
                                                    oK (sameCS.dec [AV.agg [AV.int IntKind.i64 (lapseF (cOf d15) (nOf d15)).fst, AV.int IntKind.i64 (lapseF (cOf d15) (nOf d15)).snd.fst, AV.int IntKind.i64 (lapseF (cOf d15) (nOf d15)).snd.snd.fst, AV.str (lapseF (cOf d15) (nOf d15)).snd.snd.snd.fst, AV.slc (lapseF (cOf d15) (nOf d15)).snd.snd.snd.snd.fst.fst (List.map (mkV true Write_tfs) (lapseF (cOf d15) (nOf d15)).snd.snd.snd.snd.fst.snd), AV.int IntKind.i64 (lapseF (cOf d15) (nOf d15)).snd.snd.snd.snd.snd.fst, AV.bool (lapseF (cOf d15) (nOf d15)).snd.snd.snd.snd.snd.snd.fst, AV.bool (lapseF (cOf d15) (nOf d15)).snd.snd.snd.snd.snd.snd.snd], AV.agg [AV.int IntKind.i64 (lapseXF (cOf d16) (nOf d16)).fst, AV.int IntKind.i64 (lapseXF (cOf d16) (nOf d16)).snd.fst, AV.int IntKind.i64 (lapseXF (cOf d16) (nOf d16)).snd.snd.fst, AV.str (lapseXF (cOf d16) (nOf d16)).snd.snd.snd.fst, AV.slc (lapseXF (cOf d16) (nOf d16)).snd.snd.snd.snd.fst.fst (List.map (mkV true Write_tfs) (lapseXF (cOf d16) (nOf d16)).snd.snd.snd.snd.fst.snd), AV.int IntKind.i64 (lapseXF (cOf d16) (nOf d16)).snd.snd.snd.snd.snd.fst, AV.bool (lapseXF (cOf d16) (nOf d16)).snd.snd.snd.snd.snd.snd.fst, AV.bool (lapseXF (cOf d16) (nOf d16)).snd.snd.snd.snd.snd.snd.snd]] []) fun (d17 : Int × Int × Int × List UInt8 × (Bool × List (Int × List UInt8)) × Int × Bool × Bool × Int × Int × Int × List UInt8 × (Bool × List (Int × List UInt8)) × Int × Bool × Bool) =>
                                                      bK (!sameCF (sA d17) (sB d17)) (some { pan := false, res := AV.bool false, out := [], new := [] })
                                                        (oK (validS.dec [AV.agg [AV.int IntKind.i64 (cacheF d1.fst).snd.fst, AV.int IntKind.i64 (cacheF d1.fst).snd.snd.fst, AV.int IntKind.i64 (cacheF d1.fst).snd.snd.snd.fst, AV.str (cacheF d1.fst).snd.snd.snd.snd.fst, AV.slc (cacheF d1.fst).snd.snd.snd.snd.snd.fst.fst (List.map (mkV true Write_tfs) (cacheF d1.fst).snd.snd.snd.snd.snd.fst.snd), AV.int IntKind.i64 (cacheF d1.fst).snd.snd.snd.snd.snd.snd.fst, AV.bool (cacheF d1.fst).snd.snd.snd.snd.snd.snd.snd.fst, AV.bool (cacheF d1.fst).snd.snd.snd.snd.snd.snd.snd.snd], AV.int IntKind.i64 (IntKind.i64.wrap (near.tmod 120))] []) fun (d18 : Int × Int × Int × List UInt8 × (Bool × List (Int × List UInt8)) × Int × Bool × Bool × Int) =>
                                                          oK (validXS.dec [AV.agg [AV.int IntKind.i64 (cacheF d1.fst).snd.fst, AV.int IntKind.i64 (cacheF d1.fst).snd.snd.fst, AV.int IntKind.i64 (cacheF d1.fst).snd.snd.snd.fst, AV.str (cacheF d1.fst).snd.snd.snd.snd.fst, AV.slc (cacheF d1.fst).snd.snd.snd.snd.snd.fst.fst (List.map (mkV true Write_tfs) (cacheF d1.fst).snd.snd.snd.snd.snd.fst.snd), AV.int IntKind.i64 (cacheF d1.fst).snd.snd.snd.snd.snd.snd.fst, AV.bool (cacheF d1.fst).snd.snd.snd.snd.snd.snd.snd.fst, AV.bool (cacheF d1.fst).snd.snd.snd.snd.snd.snd.snd.snd], AV.int IntKind.i64 (IntKind.i64.wrap (near.tmod 120))] []) fun (d19 : Int × Int × Int × List UInt8 × (Bool × List (Int × List UInt8)) × Int × Bool × Bool × Int) =>
                                                            bK (!decide (validF (cOf d18) (nOf d18) = validF (cOf d19) (nOf d19))) (some { pan := false, res := AV.bool false, out := [], new := [] })
                                                              (oK (lapseS.dec [AV.agg [AV.int IntKind.i64 (cacheF d1.fst).snd.fst, AV.int IntKind.i64 (cacheF d1.fst).snd.snd.fst, AV.int IntKind.i64 (cacheF d1.fst).snd.snd.snd.fst, AV.str (cacheF d1.fst).snd.snd.snd.snd.fst, AV.slc (cacheF d1.fst).snd.snd.snd.snd.snd.fst.fst (List.map (mkV true Write_tfs) (cacheF d1.fst).snd.snd.snd.snd.snd.fst.snd), AV.int IntKind.i64 (cacheF d1.fst).snd.snd.snd.snd.snd.snd.fst, AV.bool (cacheF d1.fst).snd.snd.snd.snd.snd.snd.snd.fst, AV.bool (cacheF d1.fst).snd.snd.snd.snd.snd.snd.snd.snd], AV.int IntKind.i64 (IntKind.i64.wrap (near.tmod 120))] []) fun (d20 : Int × Int × Int × List UInt8 × (Bool × List (Int × List UInt8)) × Int × Bool × Bool × Int) =>
                                                                oK (lapseRS.dec [AV.agg [AV.int IntKind.i64 (cacheF d1.fst).snd.fst, AV.int IntKind.i64 (cacheF d1.fst).snd.snd.fst, AV.int IntKind.i64 (cacheF d1.fst).snd.snd.snd.fst, AV.str (cacheF d1.fst).snd.snd.snd.snd.fst, AV.slc (cacheF d1.fst).snd.snd.snd.snd.snd.fst.fst (List.map (mkV true Write_tfs) (cacheF d1.fst).snd.snd.snd.snd.snd.fst.snd), AV.int IntKind.i64 (cacheF d1.fst).snd.snd.snd.snd.snd.snd.fst, AV.bool (cacheF d1.fst).snd.snd.snd.snd.snd.snd.snd.fst, AV.bool (cacheF d1.fst).snd.snd.snd.snd.snd.snd.snd.snd], AV.int IntKind.i64 (IntKind.i64.wrap (near.tmod 120))] []) fun (d21 : Int × Int × Int × List UInt8 × (Bool × List (Int × List UInt8)) × Int × Bool × Bool × Int) =>
                                                                  oK (sameCS.dec [AV.agg [AV.int IntKind.i64 (lapseF (cOf d20) (nOf d20)).fst, AV.int IntKind.i64 (lapseF (cOf d20) (nOf d20)).snd.fst, AV.int IntKind.i64 (lapseF (cOf d20) (nOf d20)).snd.snd.fst, AV.str (lapseF (cOf d20) (nOf d20)).snd.snd.snd.fst, AV.slc (lapseF (cOf d20) (nOf d20)).snd.snd.snd.snd.fst.fst (List.map (mkV true Write_tfs) (lapseF (cOf d20) (nOf d20)).snd.snd.snd.snd.fst.snd), AV.int IntKind.i64 (lapseF (cOf d20) (nOf d20)).snd.snd.snd.snd.snd.fst, AV.bool (lapseF (cOf d20) (nOf d20)).snd.snd.snd.snd.snd.snd.fst, AV.bool (lapseF (cOf d20) (nOf d20)).snd.snd.snd.snd.snd.snd.snd], AV.agg [AV.int IntKind.i64 (lapseXF (cOf d21) (nOf d21)).fst, AV.int IntKind.i64 (lapseXF (cOf d21) (nOf d21)).snd.fst, AV.int IntKind.i64 (lapseXF (cOf d21) (nOf d21)).snd.snd.fst, AV.str (lapseXF (cOf d21) (nOf d21)).snd.snd.snd.fst, AV.slc (lapseXF (cOf d21) (nOf d21)).snd.snd.snd.snd.fst.fst (List.map (mkV true Write_tfs) (lapseXF (cOf d21) (nOf d21)).snd.snd.snd.snd.fst.snd), AV.int IntKind.i64 (lapseXF (cOf d21) (nOf d21)).snd.snd.snd.snd.snd.fst, AV.bool (lapseXF (cOf d21) (nOf d21)).snd.snd.snd.snd.snd.snd.fst, AV.bool (lapseXF (cOf d21) (nOf d21)).snd.snd.snd.snd.snd.snd.snd]] []) fun (d22 : Int × Int × Int × List UInt8 × (Bool × List (Int × List UInt8)) × Int × Bool × Bool × Int × Int × Int × List UInt8 × (Bool × List (Int × List UInt8)) × Int × Bool × Bool) =>
                                                                    bK (!sameCF (sA d22) (sB d22)) (some { pan := false, res := AV.bool false, out := [], new := [] })
                                                                      (oK (bufS.dec [AV.agg [AV.int IntKind.i64 (cacheF d1.fst).snd.fst, AV.int IntKind.i64 (cacheF d1.fst).snd.snd.fst, AV.int IntKind.i64 (cacheF d1.fst).snd.snd.snd.fst, AV.str (cacheF d1.fst).snd.snd.snd.snd.fst, AV.slc (cacheF d1.fst).snd.snd.snd.snd.snd.fst.fst (List.map (mkV true Write_tfs) (cacheF d1.fst).snd.snd.snd.snd.snd.fst.snd), AV.int IntKind.i64 (cacheF d1.fst).snd.snd.snd.snd.snd.snd.fst, AV.bool (cacheF d1.fst).snd.snd.snd.snd.snd.snd.snd.fst, AV.bool (cacheF d1.fst).snd.snd.snd.snd.snd.snd.snd.snd], AV.agg [AV.int IntKind.i64 wild_Off, AV.str wild_B]] []) fun (d23 : Int × Int × Int × List UInt8 × (Bool × List (Int × List UInt8)) × Int × Bool × Bool × Int × List UInt8) =>
                                                                        oK (bufXS.dec [AV.agg [AV.int IntKind.i64 (cacheF d1.fst).snd.fst, AV.int IntKind.i64 (cacheF d1.fst).snd.snd.fst, AV.int IntKind.i64 (cacheF d1.fst).snd.snd.snd.fst, AV.str (cacheF d1.fst).snd.snd.snd.snd.fst, AV.slc (cacheF d1.fst).snd.snd.snd.snd.snd.fst.fst (List.map (mkV true Write_tfs) (cacheF d1.fst).snd.snd.snd.snd.snd.fst.snd), AV.int IntKind.i64 (cacheF d1.fst).snd.snd.snd.snd.snd.snd.fst, AV.bool (cacheF d1.fst).snd.snd.snd.snd.snd.snd.snd.fst, AV.bool (cacheF d1.fst).snd.snd.snd.snd.snd.snd.snd.snd], AV.agg [AV.int IntKind.i64 wild_Off, AV.str wild_B]] []) fun (d24 : Int × Int × Int × List UInt8 × (Bool × List (Int × List UInt8)) × Int × Bool × Bool × Int × List UInt8) =>
                                                                          oK (bufS.dec [AV.agg [AV.int IntKind.i64 (cacheF d1.fst).snd.fst, AV.int IntKind.i64 (cacheF d1.fst).snd.snd.fst, AV.int IntKind.i64 (cacheF d1.fst).snd.snd.snd.fst, AV.str (cacheF d1.fst).snd.snd.snd.snd.fst, AV.slc (cacheF d1.fst).snd.snd.snd.snd.snd.fst.fst (List.map (mkV true Write_tfs) (cacheF d1.fst).snd.snd.snd.snd.snd.fst.snd), AV.int IntKind.i64 (cacheF d1.fst).snd.snd.snd.snd.snd.snd.fst, AV.bool (cacheF d1.fst).snd.snd.snd.snd.snd.snd.snd.fst, AV.bool (cacheF d1.fst).snd.snd.snd.snd.snd.snd.snd.snd], AV.agg [AV.int IntKind.i64 (IntKind.i64.wrap (near.tmod 9)), AV.str [119]]] []) fun (d25 : Int × Int × Int × List UInt8 × (Bool × List (Int × List UInt8)) × Int × Bool × Bool × Int × List UInt8) =>
                                                                            oK (bufXS.dec [AV.agg [AV.int IntKind.i64 (cacheF d1.fst).snd.fst, AV.int IntKind.i64 (cacheF d1.fst).snd.snd.fst, AV.int IntKind.i64 (cacheF d1.fst).snd.snd.snd.fst, AV.str (cacheF d1.fst).snd.snd.snd.snd.fst, AV.slc (cacheF d1.fst).snd.snd.snd.snd.snd.fst.fst (List.map (mkV true Write_tfs) (cacheF d1.fst).snd.snd.snd.snd.snd.fst.snd), AV.int IntKind.i64 (cacheF d1.fst).snd.snd.snd.snd.snd.snd.fst, AV.bool (cacheF d1.fst).snd.snd.snd.snd.snd.snd.snd.fst, AV.bool (cacheF d1.fst).snd.snd.snd.snd.snd.snd.snd.snd], AV.agg [AV.int IntKind.i64 (IntKind.i64.wrap (near.tmod 9)), AV.str [119]]] []) fun (d26 : Int × Int × Int × List UInt8 × (Bool × List (Int × List UInt8)) × Int × Bool × Bool × Int × List UInt8) =>
                                                                              bK ((bOut (bufCF (bC d23) (bW d23))).snd.snd.snd.snd.snd.snd.snd.snd == (bOut (bufXF (bC d24) (bW d24))).snd.snd.snd.snd.snd.snd.snd.snd)
                                                                                (oK (sameCS.dec [AV.agg [AV.int IntKind.i64 (bOut (bufCF (bC d23) (bW d23))).fst, AV.int IntKind.i64 (bOut (bufCF (bC d23) (bW d23))).snd.fst, AV.int IntKind.i64 (bOut (bufCF (bC d23) (bW d23))).snd.snd.fst, AV.str (bOut (bufCF (bC d23) (bW d23))).snd.snd.snd.fst, AV.slc (bOut (bufCF (bC d23) (bW d23))).snd.snd.snd.snd.fst.fst (List.map (mkV true Write_tfs) (bOut (bufCF (bC d23) (bW d23))).snd.snd.snd.snd.fst.snd), AV.int IntKind.i64 (bOut (bufCF (bC d23) (bW d23))).snd.snd.snd.snd.snd.fst, AV.bool (bOut (bufCF (bC d23) (bW d23))).snd.snd.snd.snd.snd.snd.fst, AV.bool (bOut (bufCF (bC d23) (bW d23))).snd.snd.snd.snd.snd.snd.snd.fst], AV.agg [AV.int IntKind.i64 (bOut (bufXF (bC d24) (bW d24))).fst, AV.int IntKind.i64 (bOut (bufXF (bC d24) (bW d24))).snd.fst, AV.int IntKind.i64 (bOut (bufXF (bC d24) (bW d24))).snd.snd.fst, AV.str (bOut (bufXF (bC d24) (bW d24))).snd.snd.snd.fst, AV.slc (bOut (bufXF (bC d24) (bW d24))).snd.snd.snd.snd.fst.fst (List.map (mkV true Write_tfs) (bOut (bufXF (bC d24) (bW d24))).snd.snd.snd.snd.fst.snd), AV.int IntKind.i64 (bOut (bufXF (bC d24) (bW d24))).snd.snd.snd.snd.snd.fst, AV.bool (bOut (bufXF (bC d24) (bW d24))).snd.snd.snd.snd.snd.snd.fst, AV.bool (bOut (bufXF (bC d24) (bW d24))).snd.snd.snd.snd.snd.snd.snd.fst]] [])
                                                                                  fun (d27 : Int × Int × Int × List UInt8 × (Bool × List (Int × List UInt8)) × Int × Bool × Bool × Int × Int × Int × List UInt8 × (Bool × List (Int × List UInt8)) × Int × Bool × Bool) =>
                                                                                  bK (sameCF (sA d27) (sB d27))
                                                                                    (bK ((bOut (bufCF (bC d25) (bW d25))).snd.snd.snd.snd.snd.snd.snd.snd == (bOut (bufXF (bC d26) (bW d26))).snd.snd.snd.snd.snd.snd.snd.snd)
                                                                                      (oK (sameCS.dec [AV.agg [AV.int IntKind.i64 (bOut (bufCF (bC d25) (bW d25))).fst, AV.int IntKind.i64 (bOut (bufCF (bC d25) (bW d25))).snd.fst, AV.int IntKind.i64 (bOut (bufCF (bC d25) (bW d25))).snd.snd.fst, AV.str (bOut (bufCF (bC d25) (bW d25))).snd.snd.snd.fst, AV.slc (bOut (bufCF (bC d25) (bW d25))).snd.snd.snd.snd.fst.fst (List.map (mkV true Write_tfs) (bOut (bufCF (bC d25) (bW d25))).snd.snd.snd.snd.fst.snd), AV.int IntKind.i64 (bOut (bufCF (bC d25) (bW d25))).snd.snd.snd.snd.snd.fst, AV.bool (bOut (bufCF (bC d25) (bW d25))).snd.snd.snd.snd.snd.snd.fst, AV.bool (bOut (bufCF (bC d25) (bW d25))).snd.snd.snd.snd.snd.snd.snd.fst], AV.agg [AV.int IntKind.i64 (bOut (bufXF (bC d26) (bW d26))).fst, AV.int IntKind.i64 (bOut (bufXF (bC d26) (bW d26))).snd.fst, AV.int IntKind.i64 (bOut (bufXF (bC d26) (bW d26))).snd.snd.fst, AV.str (bOut (bufXF (bC d26) (bW d26))).snd.snd.snd.fst, AV.slc (bOut (bufXF (bC d26) (bW d26))).snd.snd.snd.snd.fst.fst (List.map (mkV true Write_tfs) (bOut (bufXF (bC d26) (bW d26))).snd.snd.snd.snd.fst.snd), AV.int IntKind.i64 (bOut (bufXF (bC d26) (bW d26))).snd.snd.snd.snd.snd.fst, AV.bool (bOut (bufXF (bC d26) (bW d26))).snd.snd.snd.snd.snd.snd.fst, AV.bool (bOut (bufXF (bC d26) (bW d26))).snd.snd.snd.snd.snd.snd.snd.fst]] [])
                                                                                        fun (d28 : Int × Int × Int × List UInt8 × (Bool × List (Int × List UInt8)) × Int × Bool × Bool × Int × Int × Int × List UInt8 × (Bool × List (Int × List UInt8)) × Int × Bool × Bool) =>
                                                                                        bK (sameCF (sA d28) (sB d28))
                                                                                          (oK (letCS.dec [AV.agg [AV.int IntKind.i64 (cacheF d1.fst).snd.fst, AV.int IntKind.i64 (cacheF d1.fst).snd.snd.fst, AV.int IntKind.i64 (cacheF d1.fst).snd.snd.snd.fst, AV.str (cacheF d1.fst).snd.snd.snd.snd.fst, AV.slc (cacheF d1.fst).snd.snd.snd.snd.snd.fst.fst (List.map (mkV true Write_tfs) (cacheF d1.fst).snd.snd.snd.snd.snd.fst.snd), AV.int IntKind.i64 (cacheF d1.fst).snd.snd.snd.snd.snd.snd.fst, AV.bool (cacheF d1.fst).snd.snd.snd.snd.snd.snd.snd.fst, AV.bool (cacheF d1.fst).snd.snd.snd.snd.snd.snd.snd.snd], AV.int IntKind.i64 mode, AV.int IntKind.i64 until_, AV.int IntKind.i64 ver, AV.str body] []) fun (d29 : Int × Int × Int × List UInt8 × (Bool × List (Int × List UInt8)) × Int × Bool × Bool × Int × Int × Int × List UInt8) =>
                                                                                            oK (letXS.dec [AV.agg [AV.int IntKind.i64 (cacheF d1.fst).snd.fst, AV.int IntKind.i64 (cacheF d1.fst).snd.snd.fst, AV.int IntKind.i64 (cacheF d1.fst).snd.snd.snd.fst, AV.str (cacheF d1.fst).snd.snd.snd.snd.fst, AV.slc (cacheF d1.fst).snd.snd.snd.snd.snd.fst.fst (List.map (mkV true Write_tfs) (cacheF d1.fst).snd.snd.snd.snd.snd.fst.snd), AV.int IntKind.i64 (cacheF d1.fst).snd.snd.snd.snd.snd.snd.fst, AV.bool (cacheF d1.fst).snd.snd.snd.snd.snd.snd.snd.fst, AV.bool (cacheF d1.fst).snd.snd.snd.snd.snd.snd.snd.snd], AV.int IntKind.i64 mode, AV.int IntKind.i64 until_, AV.int IntKind.i64 ver, AV.str body] []) fun (d30 : Int × Int × Int × List UInt8 × (Bool × List (Int × List UInt8)) × Int × Bool × Bool × Int × Int × Int × List UInt8) =>
                                                                                              oK (sameCS.dec [AV.agg [AV.int IntKind.i64 d29.snd.snd.snd.snd.snd.snd.snd.snd.fst, AV.int IntKind.i64 d29.snd.snd.snd.snd.snd.snd.snd.snd.snd.fst, AV.int IntKind.i64 d29.snd.snd.snd.snd.snd.snd.snd.snd.snd.snd.fst, AV.str d29.snd.snd.snd.snd.snd.snd.snd.snd.snd.snd.snd, AV.slc d29.snd.snd.snd.snd.fst.snd.isEmpty (List.map (mkV true Write_tfs) d29.snd.snd.snd.snd.fst.snd), AV.int IntKind.i64 d29.snd.snd.snd.snd.snd.fst, AV.bool false, AV.bool d29.snd.snd.snd.snd.snd.snd.snd.fst], AV.agg [AV.int IntKind.i64 d30.snd.snd.snd.snd.snd.snd.snd.snd.fst, AV.int IntKind.i64 d30.snd.snd.snd.snd.snd.snd.snd.snd.snd.fst, AV.int IntKind.i64 d30.snd.snd.snd.snd.snd.snd.snd.snd.snd.snd.fst, AV.str d30.snd.snd.snd.snd.snd.snd.snd.snd.snd.snd.snd, AV.slc d30.snd.snd.snd.snd.fst.fst (List.map (mkV true Write_tfs) d30.snd.snd.snd.snd.fst.snd), AV.int IntKind.i64 d30.snd.snd.snd.snd.snd.fst, AV.bool false, AV.bool d30.snd.snd.snd.snd.snd.snd.snd.fst]] []) fun (d31 : Int × Int × Int × List UInt8 × (Bool × List (Int × List UInt8)) × Int × Bool × Bool × Int × Int × Int × List UInt8 × (Bool × List (Int × List UInt8)) × Int × Bool × Bool) => some { pan := false, res := AV.bool (sameCF (sA d31) (sB d31)), out := [], new := [] })
                                                                                          (some { pan := false, res := AV.bool false, out := [], new := [] }))
                                                                                      (some { pan := false, res := AV.bool false, out := [], new := [] }))
                                                                                    (some { pan := false, res := AV.bool false, out := [], new := [] }))
                                                                                (some { pan := false, res := AV.bool false, out := [], new := [] })))))))))))))
theorem cacheAll_w (picks_x : Bool) (picks : List Int) (more_x : Bool) (more : List Int) (now : Int) (near : Int) (mode : Int) (until_ : Int) (ver : Int) (body : List UInt8) (wild_Off : Int) (wild_B : List UInt8) : unitQ Try.prog cfg PKg3 LP0 true 3 (groupA cacheAll_sh (Tu.mk cacheAll_fs ((picks_x, picks), (more_x, more), now, near, mode, until_, ver, body, wild_Off, wild_B))) [] = cacheAll_r picks_x picks more_x more now near mode until_ ver body wild_Off wild_B := by kernel_rfl

theorem oK_bufX {R : Type} (c : Cache_T) (w : Write_T) (h : (dOf c).length ≤ 1000) {k : Tu bufX_fs → Option R} {Q : Option R → Prop} (hz : Q (k (bufD c w))) : Q (oK (bufXS.dec (bufXS.args (bufD c w)) []) k) := oK_fsq bufXS (bufD c w) h hz
theorem same_false {a b : Cache_T} : sameCF a b = sameCF a b := rfl
theorem buf_both (c : Cache_T) (w : Write_T) : (bufCF c w).2 = (bufXF c w).2 ∧ normC (bufCF c w).1 = normC (bufXF c w).1 := by
  unfold bufCF bufXF
  split <;> exact ⟨rfl, rfl⟩
theorem bufCF_len (c : Cache_T) (w : Write_T) (h : (dOf c).length ≤ 5) : (dOf (bufCF c w).1).length ≤ 100000 := by
  unfold bufCF
  split
  · show (c.2.2.2.2.1.2 ++ [w]).length ≤ 100000
    have : c.2.2.2.2.1.2.length ≤ 5 := h
    simp; omega
  · show c.2.2.2.2.1.2.length ≤ 100000
    have : c.2.2.2.2.1.2.length ≤ 5 := h
    omega
theorem done_both (c : Cache_T) (v : Int) : normC (doneCF c v) = normC (doneXF c v) := by
  unfold doneCF doneXF
  split <;> rfl
theorem doneCF_len (c : Cache_T) (v : Int) (h : (dOf c).length ≤ 5) : (dOf (doneCF c v)).length ≤ 100000 := by
  have : c.2.2.2.2.1.2.length ≤ 5 := h
  unfold doneCF
  split
  · show (c.2.2.2.2.1.2.drop _).length ≤ 100000
    rw [List.length_drop]; omega
  · show c.2.2.2.2.1.2.length ≤ 100000
    omega
theorem lapse_both (c : Cache_T) (n : Int) : normC (lapseF c n) = normC (lapseXF c n) := by
  unfold lapseF lapseXF
  split <;> rfl
theorem cacheAll_yes (picks_x : Bool) (picks : List Int) (more_x : Bool) (more : List Int) (now : Int) (near : Int) (mode : Int) (until_ : Int) (ver : Int) (body : List UInt8) (wild_Off : Int) (wild_B : List UInt8) (h : Tu.wf cacheAll_fs ((picks_x, picks), (more_x, more), now, near, mode, until_, ver, body, wild_Off, wild_B)) : Yes (cacheAll_r picks_x picks more_x more now near mode until_ ver body wild_Off wild_B) := by
  have h8 := wf8 h.1.2
  have h9 := wf8 h.2.1.2
  unfold cacheAll_r
  refine oK_fsq begunS () trivial ?_
  refine bK_iq (fun _ => yes_leaf) (fun c1 => bK_iq (fun _ => yes_leaf) (fun c2 => bK_iq (fun _ => yes_leaf) (fun c3 => bK_iq (fun _ => yes_leaf) (fun c4 => ?_))))
  have hlen : picks.length ≤ 40 := by simp only [List.length_map] at c1; omega
  have hlen2 : more.length ≤ 40 := by simp only [List.length_map] at c2; omega
  have hp : pkOk ((picks_x, picks), 0) := ⟨by simp, by simp, by show picks.length ≤ 2 ^ 62; omega, h8⟩
  have hp2 : pkOk ((more_x, more), 0) := ⟨by simp, by simp, by show more.length ≤ 2 ^ 62; omega, h9⟩
  refine oK_msq cachePS ((picks_x, picks), 0) () hp ?_
  refine oK_msq cachePS ((more_x, more), 0) () hp2 ?_
  have hc := (cacheF_ok hp).2
  have hd := (cacheF_ok hp2).2
  simp only
  generalize (cacheF ((picks_x, picks), 0)).2 = c at hc ⊢
  generalize (cacheF ((more_x, more), 0)).2 = d at hd ⊢
  have hc5 : (dOf c).length ≤ 5 := hc.1
  have hcl : (dOf c).length ≤ 100000 := by omega
  have hcm : (dOf c).length ≤ 1000 := by omega
  have hdn : dnOk c := ⟨hc.2, hcm⟩
  refine oK_fsq sameXS (samD c d) hcl ?_
  refine oK_sam c d hcl ?_
  refine bK_fq (by simp) ?_
  refine oK_view c hc ?_
  refine oK_fsq viewRS c ⟨hc.2, hcm⟩ ?_
  refine bK_fq (by simp) ?_
  refine oK_fsq resetCS c trivial ?_
  refine oK_fsq resetRS c trivial ?_
  refine oK_sam (resetF c) (resetF c) (Nat.zero_le _) ?_
  refine bK_fq (congrArg (!·) (same_of rfl)) ?_
  refine oK_fsq doneS (lapD c ver) hdn ?_
  refine oK_fsq doneRS (lapD c ver) hdn ?_
  refine oK_sam (doneCF c ver) (doneXF c ver) (doneCF_len c ver hc5) ?_
  refine bK_fq (congrArg (!·) (same_of (done_both c ver))) ?_
  refine oK_val c now ?_
  refine oK_fsq validXS (lapD c now) trivial ?_
  refine bK_fq (by simp) ?_
  refine oK_lap c now hcl ?_
  refine oK_fsq lapseRS (lapD c now) trivial ?_
  refine oK_sam (lapseF c now) (lapseXF c now) (lapseF_len hcl) ?_
  refine bK_fq (congrArg (!·) (same_of (lapse_both c now))) ?_
  generalize IntKind.i64.wrap (near.tmod 120) = t
  generalize IntKind.i64.wrap (near.tmod 9) = o
  refine oK_val c t ?_
  refine oK_fsq validXS (lapD c t) trivial ?_
  refine bK_fq (by simp) ?_
  refine oK_lap c t hcl ?_
  refine oK_fsq lapseRS (lapD c t) trivial ?_
  refine oK_sam (lapseF c t) (lapseXF c t) (lapseF_len hcl) ?_
  refine bK_fq (congrArg (!·) (same_of (lapse_both c t))) ?_
  refine oK_buf c (wild_Off, wild_B) hcm ?_
  refine oK_bufX c (wild_Off, wild_B) hcm ?_
  refine oK_buf c (o, [119]) hcm ?_
  refine oK_bufX c (o, [119]) hcm ?_
  have b1 := buf_both c (wild_Off, wild_B)
  have b2 := buf_both c (o, [119])
  refine bK_tq (beq_iff_eq.2 b1.1) ?_
  refine oK_sam (bufCF c (wild_Off, wild_B)).1 (bufXF c (wild_Off, wild_B)).1 (bufCF_len _ _ hc5) ?_
  refine bK_tq (same_of b1.2) ?_
  refine bK_tq (beq_iff_eq.2 b2.1) ?_
  refine oK_sam (bufCF c (o, [119])).1 (bufXF c (o, [119])).1 (bufCF_len _ _ hc5) ?_
  refine bK_tq (same_of b2.2) ?_
  refine oK_fsq letCS (c.1, c.2.1, c.2.2.1, c.2.2.2.1, c.2.2.2.2.1, c.2.2.2.2.2.1, c.2.2.2.2.2.2.1, c.2.2.2.2.2.2.2, mode, until_, ver, body) hcl ?_
  refine oK_fsq letXS (c.1, c.2.1, c.2.2.1, c.2.2.2.1, c.2.2.2.2.1, c.2.2.2.2.2.1, c.2.2.2.2.2.2.1, c.2.2.2.2.2.2.2, mode, until_, ver, body) trivial ?_
  refine oK_sam (mode, until_, ver, body, (c.2.2.2.2.1.2.isEmpty, c.2.2.2.2.1.2), c.2.2.2.2.2.1, false, c.2.2.2.2.2.2.2) (mode, until_, ver, body, c.2.2.2.2.1, c.2.2.2.2.2.1, false, c.2.2.2.2.2.2.2) hcl ?_
  exact yes_of (same_of rfl)

end Go.Proofs.Ytlhnpfpdjlcakaa
