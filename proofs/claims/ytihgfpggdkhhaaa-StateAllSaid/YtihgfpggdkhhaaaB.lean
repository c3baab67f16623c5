/- A part of the proof: contracts of functions. -/
import Derived.Test.YtihgfpggdkhhaaaS
import Derived.Test.YtihgfpggdkhhaaaAbAny

set_option linter.unusedVariables false
set_option linter.unusedSimpArgs false
set_option maxRecDepth 100000
namespace Go.Proofs.Ytihgfpggdkhhaaa
open Go Go.Ab
noncomputable def PKf : PKs := PK5
theorem PKf_ok : PKsOk Try.prog PKf := PK5_ok
/-- Copies. -/
def repF (d : List UInt8 × Int) : List UInt8 := Lib.repeatL d.1 d.2.toNat
noncomputable def repS : FS := ⟨[none, none], [.fs, .fi .i64], [none], [.fs], fun d => d.1.length ≤ 1000 ∧ 0 ≤ (d.2 : Int) ∧ (d.2 : Int) ≤ 1000, fun d => repF d, none⟩
theorem rep_v : ∀ d : Tu repS.fs, repS.pre d → repG (repS.args d) [] = some (repS.ret d)
  | (s, n), h => by
    obtain ⟨h1, h2, h3⟩ := h
    have h1' : s.length ≤ 1000 := h1
    have h2' : 0 ≤ n := h2
    have h3' : n ≤ 1000 := h3
    show repG [.str s, .int .i64 n] [] = _
    unfold repG
    simp only
    rw [if_pos ⟨h2', Int.le_trans h3' (by decide), Nat.le_trans h1' (by decide), rfl⟩]
    rfl
noncomputable def PKw3 : PKs := PKf.add 78 repS.pk
theorem PKw3_ok : PKsOk Try.prog PKw3 := PKsOk.prim PKf_ok rep_prim repS rep_v
/-- A write that may be. -/
def mayB (w : Write_T) : Prop := 0 ≤ w.1 ∧ 1 ≤ w.2.length ∧ w.2.length ≤ 24 ∧ w.1 ≤ 24 - (w.2.length : Int)
instance (w : Write_T) : Decidable (mayB w) := inferInstanceAs (Decidable (_ ∧ _))
def padB (b : List UInt8) (n : Nat) : List UInt8 := b ++ List.replicate (n - b.length) 0
def putB (b : List UInt8) (w : Write_T) : List UInt8 := if mayB w then (padB b w.1.toNat).take w.1.toNat ++ w.2 ++ (padB b w.1.toNat).drop (w.1.toNat + w.2.length) else b
theorem padB_len (b : List UInt8) (n : Nat) : (padB b n).length = max b.length n := by
  simp [padB]; omega
theorem padB_get (b : List UInt8) (n k : Nat) : (padB b n)[k]?.getD 0 = b[k]?.getD 0 := by
  unfold padB
  rw [List.getElem?_append]
  split
  · rfl
  · rename_i h
    rw [List.getElem?_eq_none (l := b) (by omega)]
    rw [List.getElem?_replicate]
    split <;> rfl
theorem putB_len {b : List UInt8} {w : Write_T} (h : mayB w) : (putB b w).length = max b.length (w.1.toNat + w.2.length) := by
  unfold putB
  rw [if_pos h]
  simp [padB_len]
  omega
theorem putB_get {b : List UInt8} {w : Write_T} (h : mayB w) (k : Nat) : (putB b w)[k]?.getD 0 = if w.1.toNat ≤ k ∧ k < w.1.toNat + w.2.length then w.2[k - w.1.toNat]?.getD 0 else b[k]?.getD 0 := by
  unfold putB
  rw [if_pos h]
  have hp := padB_len b w.1.toNat
  have hl : (List.take w.1.toNat (padB b w.1.toNat)).length = w.1.toNat := by rw [List.length_take]; omega
  rw [List.append_assoc, List.getElem?_append, hl]
  by_cases h1 : k < w.1.toNat
  · rw [if_pos h1, if_neg (by omega), List.getElem?_take, if_pos h1, padB_get]
  · rw [if_neg h1, List.getElem?_append]
    by_cases h2 : k < w.1.toNat + w.2.length
    · rw [if_pos (by omega), if_pos ⟨by omega, h2⟩]
    · rw [if_neg (by omega), if_neg (by omega), List.getElem?_drop]
      rw [show w.1.toNat + w.2.length + (k - w.1.toNat - w.2.length) = k by omega, padB_get]
theorem eq_of_get {a b : List UInt8} (hl : a.length = b.length) (h : ∀ k : Nat, a[k]?.getD 0 = b[k]?.getD 0) : a = b := by
  apply List.ext_getElem hl
  intro i h1 h2
  have := h i
  rwa [List.getElem?_eq_getElem h1, List.getElem?_eq_getElem h2] at this
theorem putB_twice (b : List UInt8) (w : Write_T) : putB (putB b w) w = putB b w := by
  by_cases h : mayB w
  · refine eq_of_get ?_ (fun k => ?_)
    · rw [putB_len h, putB_len h]; omega
    · rw [putB_get h, putB_get h]
      split
      · rfl
      · rfl
  · unfold putB
    rw [if_neg h, if_neg h]
theorem putB_le {b : List UInt8} {w : Write_T} (h : b.length ≤ 24) : (putB b w).length ≤ 24 := by
  by_cases hm : mayB w
  · rw [putB_len hm]
    obtain ⟨h0, h1, h2, h3⟩ := hm
    omega
  · unfold putB; rw [if_neg hm]; exact h
def allB (b : List UInt8) (l : List Write_T) : List UInt8 := l.foldl putB b
theorem allB_le {b : List UInt8} (h : b.length ≤ 24) : ∀ l : List Write_T, (allB b l).length ≤ 24 := by
  intro l
  induction l generalizing b with
  | nil => exact h
  | cons w l ih => exact ih (putB_le h)
abbrev mayW_id : Nat := 45
abbrev mayW_sh : Shp := [some 2]
abbrev mayW_fs : List Lf := [.fi .i64, .fs]
abbrev mayW_rsh : Shp := [none]
abbrev mayW_rfs : List Lf := [.fb]
noncomputable def mayW_r (w_Off : Int) (w_B : List UInt8) : Option Ret :=
  bK (decide (0 ≤ w_Off)) (bK (decide (1 ≤ (↑w_B.length : Int))) (bK (decide ((↑w_B.length : Int) ≤ 24)) (some { pan := false, res := AV.bool (decide (w_Off ≤ IntKind.i64.wrap (24 - (↑w_B.length : Int)))), out := [], new := [] }) (some { pan := false, res := AV.bool false, out := [], new := [] })) (some { pan := false, res := AV.bool false, out := [], new := [] })) (some { pan := false, res := AV.bool false, out := [], new := [] })
theorem mayW_w (w_Off : Int) (w_B : List UInt8) : unitQ Try.prog cfg PKw3 LP0 false 45 (groupA mayW_sh (Tu.mk mayW_fs (w_Off, w_B))) [] = mayW_r w_Off w_B := by kernel_rfl

noncomputable def mayWS : FS := ⟨mayW_sh, mayW_fs, mayW_rsh, mayW_rfs, fun _ => True, fun d => decide (mayB d), none⟩
theorem mayW_v (w_Off : Int) (w_B : List UInt8) (h : mayWS.pre (w_Off, w_B)) : mayW_r w_Off w_B = some (mayWS.ret (w_Off, w_B)) := by
  show _ = some (mayWS.out (decide (mayB (w_Off, w_B))))
  have hm : mayB (w_Off, w_B) ↔ 0 ≤ w_Off ∧ 1 ≤ w_B.length ∧ w_B.length ≤ 24 ∧ w_Off ≤ 24 - (w_B.length : Int) := Iff.rfl
  unfold mayW_r
  refine bK_i (fun c1 => bK_i (fun c2 => bK_i (fun c3 => ?_) (fun c3 => ?_)) (fun c2 => ?_)) (fun c1 => ?_)
  · rw [w64 (by omega) (by omega)]
    have : decide (mayB (w_Off, w_B)) = decide (w_Off ≤ 24 - (w_B.length : Int)) := decide_eq_decide.2 (by rw [hm]; omega)
    rw [this]; rfl
  · rw [decide_eq_false (by rw [hm]; omega)]; rfl
  · rw [decide_eq_false (by rw [hm]; omega)]; rfl
  · rw [decide_eq_false (by rw [hm]; omega)]; rfl
theorem mayW_ok : ∀ (d : Tu mayW_fs), mayWS.pre d → unitQ Try.prog cfg PKw3 LP0 false 45 (mayWS.args d) [] = some (mayWS.ret d)
  | (w_Off, w_B), h => (mayW_w w_Off w_B).trans (mayW_v w_Off w_B h)
noncomputable def PKw4 : PKs := PKw3.add 45 mayWS.pk
theorem PKw4_ok : PKsOk Try.prog PKw4 := PKsOk.fs (cfg := cfg) PKw3_ok (fnOk PKw3_ok 21) 45 rfl LP0 fLoops_none mayWS mayW_ok

abbrev putW_id : Nat := 69
abbrev putW_sh : Shp := [none, some 2]
abbrev putW_fs : List Lf := [.fs, .fi .i64, .fs]
abbrev putW_rsh : Shp := [none]
abbrev putW_rfs : List Lf := [.fs]
noncomputable def putW_r (body : List UInt8) (w_Off : Int) (w_B : List UInt8) : Option Ret :=
  oK (mayWS.dec [AV.agg [AV.int IntKind.i64 w_Off, AV.str w_B]] []) fun (d0 : Int × List UInt8) =>
  bK (!decide (mayB d0)) (some { pan := false, res := AV.str body, out := [], new := [] })
    (bK (decide (0 < IntKind.i64.wrap (w_Off - (↑body.length : Int))))
      (oK (repS.dec [AV.str [0], AV.int IntKind.i64 (IntKind.i64.wrap (w_Off - (↑body.length : Int)))] []) fun (d1 : List UInt8 × Int) =>
        bK (decide (body.length + (repF d1).length < 1000000000)) (bK (decide (0 ≤ w_Off)) (bK (decide (0 ≤ w_Off.toNat ∧ w_Off.toNat ≤ (body ++ repF d1).length)) (bK (decide ((List.take (w_Off.toNat - 0) (List.drop 0 (body ++ repF d1))).length + w_B.length < 1000000000)) (bK (decide (0 ≤ minI (IntKind.i64.wrap (w_Off + (↑w_B.length : Int))) (↑(body ++ repF d1).length : Int))) (bK (decide ((minI (IntKind.i64.wrap (w_Off + (↑w_B.length : Int))) (↑(body ++ repF d1).length : Int)).toNat ≤ (body ++ repF d1).length ∧ (body ++ repF d1).length ≤ (body ++ repF d1).length)) (bK (decide ((List.take (w_Off.toNat - 0) (List.drop 0 (body ++ repF d1)) ++ w_B).length + (List.take ((body ++ repF d1).length - (minI (IntKind.i64.wrap (w_Off + (↑w_B.length : Int))) (↑(body ++ repF d1).length : Int)).toNat) (List.drop (minI (IntKind.i64.wrap (w_Off + (↑w_B.length : Int))) (↑(body ++ repF d1).length : Int)).toNat (body ++ repF d1))).length < 1000000000)) (some { pan := false, res := AV.str (List.take (w_Off.toNat - 0) (List.drop 0 (body ++ repF d1)) ++ w_B ++ List.take ((body ++ repF d1).length - (minI (IntKind.i64.wrap (w_Off + (↑w_B.length : Int))) (↑(body ++ repF d1).length : Int)).toNat) (List.drop (minI (IntKind.i64.wrap (w_Off + (↑w_B.length : Int))) (↑(body ++ repF d1).length : Int)).toNat (body ++ repF d1))), out := [], new := [] }) none) none) none) none) none) none) none)
      (bK (decide (0 ≤ w_Off)) (bK (decide (0 ≤ w_Off.toNat ∧ w_Off.toNat ≤ body.length)) (bK (decide ((List.take (w_Off.toNat - 0) (List.drop 0 body)).length + w_B.length < 1000000000)) (bK (decide (0 ≤ minI (IntKind.i64.wrap (w_Off + (↑w_B.length : Int))) (↑body.length : Int))) (bK (decide ((minI (IntKind.i64.wrap (w_Off + (↑w_B.length : Int))) (↑body.length : Int)).toNat ≤ body.length ∧ body.length ≤ body.length)) (bK (decide ((List.take (w_Off.toNat - 0) (List.drop 0 body) ++ w_B).length + (List.take (body.length - (minI (IntKind.i64.wrap (w_Off + (↑w_B.length : Int))) (↑body.length : Int)).toNat) (List.drop (minI (IntKind.i64.wrap (w_Off + (↑w_B.length : Int))) (↑body.length : Int)).toNat body)).length < 1000000000)) (some { pan := false, res := AV.str (List.take (w_Off.toNat - 0) (List.drop 0 body) ++ w_B ++ List.take (body.length - (minI (IntKind.i64.wrap (w_Off + (↑w_B.length : Int))) (↑body.length : Int)).toNat) (List.drop (minI (IntKind.i64.wrap (w_Off + (↑w_B.length : Int))) (↑body.length : Int)).toNat body)), out := [], new := [] }) none) none) none) none) none) none))
theorem putW_w (body : List UInt8) (w_Off : Int) (w_B : List UInt8) : unitQ Try.prog cfg PKw4 LP0 false 69 (groupA putW_sh (Tu.mk putW_fs (body, w_Off, w_B))) [] = putW_r body w_Off w_B := by kernel_rfl

theorem put_core (c B : List UInt8) (off : Int) (h0 : 0 ≤ off) (h1 : off ≤ 24) (hB : B.length ≤ 24) (hc : off.toNat ≤ c.length) (hcl : c.length ≤ 2000) :
    bK (decide (0 ≤ off)) (bK (decide (0 ≤ off.toNat ∧ off.toNat ≤ c.length)) (bK (decide ((List.take (off.toNat - 0) (List.drop 0 c)).length + B.length < 1000000000)) (bK (decide (0 ≤ minI (IntKind.i64.wrap (off + (B.length : Int))) (c.length : Int))) (bK (decide ((minI (IntKind.i64.wrap (off + (B.length : Int))) (c.length : Int)).toNat ≤ c.length ∧ c.length ≤ c.length)) (bK (decide ((List.take (off.toNat - 0) (List.drop 0 c) ++ B).length + (List.take (c.length - (minI (IntKind.i64.wrap (off + (B.length : Int))) (c.length : Int)).toNat) (List.drop (minI (IntKind.i64.wrap (off + (B.length : Int))) (c.length : Int)).toNat c)).length < 1000000000)) (some ({ pan := false, res := AV.str (List.take (off.toNat - 0) (List.drop 0 c) ++ B ++ List.take (c.length - (minI (IntKind.i64.wrap (off + (B.length : Int))) (c.length : Int)).toNat) (List.drop (minI (IntKind.i64.wrap (off + (B.length : Int))) (c.length : Int)).toNat c)), out := [], new := [] } : Ret)) none) none) none) none) none) none
      = some { pan := false, res := AV.str (c.take off.toNat ++ B ++ c.drop (off.toNat + B.length)), out := [], new := [] } := by
  rw [w64 (n := off + (B.length : Int)) (by omega) (by omega)]
  have hm : (minI (off + (B.length : Int)) (c.length : Int)).toNat = min (off.toNat + B.length) c.length := by
    unfold minI; split <;> omega
  have hm0 : 0 ≤ minI (off + (B.length : Int)) (c.length : Int) := by unfold minI; split <;> omega
  rw [hm, bK_pos (by exact decide_eq_true h0), bK_pos (by exact decide_eq_true ⟨Nat.zero_le _, hc⟩), bK_pos (by simp; omega), bK_pos (by exact decide_eq_true hm0), bK_pos (by exact decide_eq_true ⟨by omega, Nat.le_refl _⟩), bK_pos (by simp; omega)]
  rw [Nat.sub_zero, List.drop_zero]
  have e : List.take (c.length - min (off.toNat + B.length) c.length) (List.drop (min (off.toNat + B.length) c.length) c) = List.drop (off.toNat + B.length) c := by
    rw [List.take_of_length_le (by simp)]
    by_cases h : off.toNat + B.length ≤ c.length
    · rw [Nat.min_eq_left h]
    · rw [Nat.min_eq_right (by omega), List.drop_of_length_le (Nat.le_refl _), List.drop_of_length_le (by omega)]
  rw [e]
noncomputable def putWS : FS := ⟨putW_sh, putW_fs, putW_rsh, putW_rfs, fun d => d.1.length ≤ 1000, fun d => putB d.1 d.2, none⟩
theorem repF_zero (n : Nat) : Lib.repeatL [0] n = List.replicate n 0 := by
  have := Lib.repeatL_replicate 0 1 n
  simpa using this
theorem putW_v (body : List UInt8) (w_Off : Int) (w_B : List UInt8) (h : putWS.pre (body, w_Off, w_B)) : putW_r body w_Off w_B = some (putWS.ret (body, w_Off, w_B)) := by
  have h' : body.length ≤ 1000 := h
  show _ = some (putWS.out (putB body (w_Off, w_B)))
  have hm : mayB (w_Off, w_B) ↔ 0 ≤ w_Off ∧ 1 ≤ w_B.length ∧ w_B.length ≤ 24 ∧ w_Off ≤ 24 - (w_B.length : Int) := Iff.rfl
  have hno : ¬ mayB (w_Off, w_B) → some ({ pan := false, res := AV.str body, out := [], new := [] } : Ret) = some (putWS.out (putB body (w_Off, w_B))) := by
    intro hn
    unfold putB
    rw [if_neg hn]; rfl
  unfold putW_r
  refine oK_fsq (Q := fun z => z = _) mayWS (w_Off, w_B) trivial ?_
  refine bK_n (fun c => hno c) (fun hy => ?_)
  · have hm' := hm.1 hy
    obtain ⟨c1, c2, c3, c4⟩ := hm'
    have hp : putB body (w_Off, w_B) = (padB body w_Off.toNat).take w_Off.toNat ++ w_B ++ (padB body w_Off.toNat).drop (w_Off.toNat + w_B.length) := by unfold putB; rw [if_pos hy]
    rw [hp, w64 (n := w_Off - (body.length : Int)) (by omega) (by omega)]
    refine bK_i (fun c5 => ?_) (fun c5 => ?_)
    · refine oK_fsq (Q := fun z => z = _) repS ([0], w_Off - (body.length : Int)) ⟨(by simp : ([0] : List UInt8).length ≤ 1000), (show (0 : Int) ≤ w_Off - (body.length : Int) by omega), (show w_Off - (body.length : Int) ≤ 1000 by omega)⟩ ?_
      have hr : body ++ repF ([0], w_Off - (body.length : Int)) = padB body w_Off.toNat := by
        unfold repF padB
        rw [repF_zero, show (w_Off - (body.length : Int)).toNat = w_Off.toNat - body.length by omega]
      have hrl : (repF ([0], w_Off - (body.length : Int))).length ≤ 1000 := by
        unfold repF
        rw [repF_zero, List.length_replicate]; omega
      rw [bK_pos (by exact decide_eq_true (by omega)), hr]
      have := padB_len body w_Off.toNat
      exact put_core (padB body w_Off.toNat) w_B w_Off c1 (by omega) (by omega) (by omega) (by omega)
    · have hr : padB body w_Off.toNat = body := by
        unfold padB
        rw [show w_Off.toNat - body.length = 0 by omega]; simp
      rw [hr]
      exact put_core body w_B w_Off c1 (by omega) (by omega) (by omega) (by omega)
theorem putW_ok : ∀ (d : Tu putW_fs), putWS.pre d → unitQ Try.prog cfg PKw4 LP0 false 69 (putWS.args d) [] = some (putWS.ret d)
  | (body, w_Off, w_B), h => (putW_w body w_Off w_B).trans (putW_v body w_Off w_B h)
noncomputable def PKw5 : PKs := PKw4.add 69 putWS.pk
theorem PKw5_ok : PKsOk Try.prog PKw5 := PKsOk.fs (cfg := cfg) PKw4_ok (fnOk PKw4_ok 21) 69 rfl LP0 fLoops_none putWS putW_ok

def alHd (x : Bool) (l : List Write_T) (b : List UInt8) (i : Int) : St := { fr := [(0, .str b), (7, .slc x (l.map (mkV true Write_tfs))), (8, .int .i64 ((l.map (mkV true Write_tfs)).length : Int)), (9, .int .i64 i)], bs := [], df := [] }
noncomputable def al_s (x : Bool) (l : List Write_T) (b : List UInt8) (i : Int) : Option (St ⊕ (Ex × St)) := stepK Try.prog cfg PKw5 LP0 46 0 (alHd x l b i)
noncomputable def al_s_r (x : Bool) (l : List Write_T) (b : List UInt8) (i : Int) : Option (St ⊕ Ex × St) :=
  bK (decide (i < (↑(List.map (mkV true Write_tfs) l).length : Int))) (oK (elemAt true Write_tfs (List.map (mkV true Write_tfs) l) i) fun (d0 : Int × List UInt8) => oK (putWS.dec [AV.str b, AV.agg [AV.int IntKind.i64 d0.fst, AV.str d0.snd]] []) fun (d1 : List UInt8 × Int × List UInt8) => some (Sum.inl { fr := [(0, AV.str (putB d1.fst d1.snd)), (7, AV.slc x (List.map (mkV true Write_tfs) l)), (8, AV.int IntKind.i64 (↑(List.map (mkV true Write_tfs) l).length : Int)), (9, AV.int IntKind.i64 (IntKind.i64.wrap (i + 1)))], bs := [], df := [] })) (some (Sum.inr (Ex.exit 0, { fr := [(0, AV.str b)], bs := [], df := [] })))
theorem al_s_w (x : Bool) (l : List Write_T) (b : List UInt8) (i : Int) : al_s x l b i = al_s_r x l b i := by kernel_rfl

def alEnd (b : List UInt8) : St := { fr := [(0, .str b)], bs := [], df := [] }
theorem loops46 : (loopsOf 0 (codeOf Try.prog 46)).map (·.1) = [0] := by kernel_rfl
theorem one46 : OneLoops Try.prog 46 := by unfold OneLoops; rw [loops46]; decide
theorem at46 : At 0 (codeOf Try.prog 46) 0 (.loop (bodyAt Try.prog 46 0)) := at_body one46 (by rw [loops46]; decide)
theorem al_run (x : Bool) (l : List Write_T) (hl : l.length ≤ 1000) : ∀ (k i : Nat), i + k = l.length → ∀ (b : List UInt8), b.length ≤ 24 → ∀ (m : Nat), k < m →
    Runs' Try.prog cfg PKw5 46 0 m (alHd x l b i) (.exit 0, alEnd (allB b (l.drop i)))
  | 0, i, hi, b, hb, m + 1, hm => by
    refine Runs'.done (lp := LP0) LPok.none at46 ((al_s_w x l b i).trans ?_)
    unfold al_s_r
    rw [bK_neg (by simp; omega), List.drop_of_length_le (by omega)]
    rfl
  | k + 1, i, hi, b, hb, m + 1, hm => by
    have hi' : (i : Int).toNat < l.length := by omega
    have e : l.drop i = l[i] :: l.drop (i + 1) := List.drop_eq_getElem_cons (by omega)
    rw [e]
    refine Runs'.step (lp := LP0) LPok.none at46 ((al_s_w x l b i).trans ?_) (al_run x l hl k (i + 1) (by omega) (putB b l[i]) (putB_le hb) m (by omega))
    unfold al_s_r
    rw [bK_pos (by simp; omega)]
    refine (oK_atD rfl (0, []) (by omega) hi').trans ?_
    have hg : l.getD (i : Int).toNat (0, []) = l[i] := by rw [getD_at hi']; simp
    rw [hg]
    have hb' : b.length ≤ 1000 := by omega
    refine oK_fsq (Q := fun z => z = _) putWS (b, l[i]) hb' ?_
    rw [w64 (by omega) (by omega)]
    rfl
abbrev AlD : Type := Bool × List Write_T × List UInt8
def alH (d : AlD) : St := alHd d.1 d.2.1 d.2.2 0
/-- All, one behind the other. -/
def allF (b : List UInt8) (l : List Write_T) : List UInt8 := allB b l
noncomputable def alL : LP := LP.of (D := AlD) alH (fun d => d.2.1.length ≤ 1000 ∧ d.2.2.length ≤ 24) fun d => .leaf (.exit 0, alEnd (allF d.2.2 d.2.1))
noncomputable def LPl : LPs := LPs.add LP0 46 0 alL
theorem LPl_ok : LPok Try.prog cfg PKw5 LPl 46 :=
  LPok.addH LPok.none one46 fun d h => al_run d.1 d.2.1 h.1 d.2.1.length 0 (by omega) d.2.2 h.2 rounds (by have := h.1; simp only [rounds]; omega)
theorem alH_inj (d d' : AlD) (h : alH d = alH d') : d = d' := by
  obtain ⟨x, l, b⟩ := d
  obtain ⟨x', l', b'⟩ := d'
  simp only [alH, alHd, St.mk.injEq, List.cons.injEq, Prod.mk.injEq, AV.slc.injEq, AV.str.injEq, and_true, true_and] at h
  obtain ⟨h1, ⟨h2, h3⟩, _⟩ := h
  rw [h1, h2, map_inj (fs := Write_tfs) rfl h3]
abbrev allW_id : Nat := 46
abbrev allW_sh : Shp := [none, none]
abbrev allW_fs : List Lf := [.fs, .fl true Write_tfs]
abbrev allW_rsh : Shp := [none]
abbrev allW_rfs : List Lf := [.fs]
noncomputable def allW_r (body : List UInt8) (l_x : Bool) (l : List Write_T) : Option Ret :=
  oK (alL.dec { fr := [(0, AV.str body), (7, AV.slc l_x (List.map (mkV true Write_tfs) l)), (8, AV.int IntKind.i64 (↑(List.map (mkV true Write_tfs) l).length : Int)), (9, AV.int IntKind.i64 0)], bs := [], df := [] }) fun (d0 : Bool × List (Int × List UInt8) × List UInt8) => some { pan := false, res := AV.str (allF d0.snd.snd d0.snd.fst), out := [], new := [] }
theorem allW_w (body : List UInt8) (l_x : Bool) (l : List Write_T) : unitQ Try.prog cfg PKw5 LPl false 46 (groupA allW_sh (Tu.mk allW_fs (body, (l_x, l)))) [] = allW_r body l_x l := by kernel_rfl

noncomputable def allWS : FS := ⟨allW_sh, allW_fs, allW_rsh, allW_rfs, fun d => d.1.length ≤ 24 ∧ d.2.2.length ≤ 1000, fun d => allF d.1 d.2.2, none⟩
theorem allW_v (body : List UInt8) (l_x : Bool) (l : List Write_T) (h : allWS.pre (body, (l_x, l))) : allW_r body l_x l = some (allWS.ret (body, (l_x, l))) := by
  unfold allW_r
  exact oK_lpq (Q := fun z => z = _) alH_inj (l_x, l, body) ⟨h.2, h.1⟩ rfl
theorem allW_ok : ∀ (d : Tu allW_fs), allWS.pre d → unitQ Try.prog cfg PKw5 LPl false 46 (allWS.args d) [] = some (allWS.ret d)
  | (body, (l_x, l)), h => (allW_w body l_x l).trans (allW_v body l_x l h)
noncomputable def PKw6 : PKs := PKw5.add 46 allWS.pk
theorem PKw6_ok : PKsOk Try.prog PKw6 := PKsOk.fs (cfg := cfg) PKw5_ok (fnOk PKw5_ok 21) 46 rfl LPl LPl_ok.loops allWS allW_ok

abbrev mayR_id : Nat := 48
abbrev mayR_sh : Shp := [some 2]
abbrev mayR_fs : List Lf := [.fi .i64, .fs]
abbrev mayR_rsh : Shp := [none]
abbrev mayR_rfs : List Lf := [.fb]
noncomputable def mayR_r (w_Off : Int) (w_B : List UInt8) : Option Ret :=
  bK (decide (0 ≤ w_Off)) (bK (decide (w_Off < 24)) (bK (decide (1 ≤ (↑w_B.length : Int))) (some { pan := false, res := AV.bool (decide ((↑w_B.length : Int) ≤ IntKind.i64.wrap (24 - w_Off))), out := [], new := [] }) (some { pan := false, res := AV.bool false, out := [], new := [] })) (some { pan := false, res := AV.bool false, out := [], new := [] })) (some { pan := false, res := AV.bool false, out := [], new := [] })
theorem mayR_w (w_Off : Int) (w_B : List UInt8) : unitQ Try.prog cfg PKw6 LP0 false 48 (groupA mayR_sh (Tu.mk mayR_fs (w_Off, w_B))) [] = mayR_r w_Off w_B := by kernel_rfl

noncomputable def mayRS : FS := ⟨mayR_sh, mayR_fs, mayR_rsh, mayR_rfs, fun _ => True, fun d => decide (mayB d), none⟩
theorem mayR_v (w_Off : Int) (w_B : List UInt8) (h : mayRS.pre (w_Off, w_B)) : mayR_r w_Off w_B = some (mayRS.ret (w_Off, w_B)) := by
  show _ = some (mayRS.out (decide (mayB (w_Off, w_B))))
  have hm : mayB (w_Off, w_B) ↔ 0 ≤ w_Off ∧ 1 ≤ w_B.length ∧ w_B.length ≤ 24 ∧ w_Off ≤ 24 - (w_B.length : Int) := Iff.rfl
  unfold mayR_r
  refine bK_i (fun c1 => bK_i (fun c2 => bK_i (fun c3 => ?_) (fun c3 => ?_)) (fun c2 => ?_)) (fun c1 => ?_)
  · rw [w64 (by omega) (by omega)]
    have : decide (mayB (w_Off, w_B)) = decide ((w_B.length : Int) ≤ 24 - w_Off) := decide_eq_decide.2 (by rw [hm]; omega)
    rw [this]; rfl
  · rw [decide_eq_false (by rw [hm]; omega)]; rfl
  · rw [decide_eq_false (by rw [hm]; omega)]; rfl
  · rw [decide_eq_false (by rw [hm]; omega)]; rfl
theorem mayR_ok : ∀ (d : Tu mayR_fs), mayRS.pre d → unitQ Try.prog cfg PKw6 LP0 false 48 (mayRS.args d) [] = some (mayRS.ret d)
  | (w_Off, w_B), h => (mayR_w w_Off w_B).trans (mayR_v w_Off w_B h)
noncomputable def PKw7 : PKs := PKw6.add 48 mayRS.pk
theorem PKw7_ok : PKsOk Try.prog PKw7 := PKsOk.fs (cfg := cfg) PKw6_ok (fnOk PKw6_ok 21) 48 rfl LP0 fLoops_none mayRS mayR_ok

def cB (c : UInt8) : AV := .int .u8 (c.toNat : Int)
def rowB (B : List UInt8) : Blk := { v := 0, k := .row, fz := false, sz := 1, es := B.map cB }
def deadB : Blk := { v := 0, k := .dead, fz := false, sz := 1, es := [] }
def rowsB (q : Bool) (B : List UInt8) : List (Nat × Blk) := match q with
  | false => [(192, rowB B)]
  | true => [(192, deadB), (464, rowB B)]
def keyB (q : Bool) : Nat := match q with
  | false => 192
  | true => 464
def piHd (q : Bool) (w : Write_T) (B : List UInt8) (i : Int) : St :=
  { fr := [(3, .ptr 48 0 0 0), (5, .sref (keyB q) 0 0 (B.map cB).length), (6, .int .i64 i)], bs := (48, boxB (Tu.mk Write_tfs w)) :: rowsB q B, df := [] }
noncomputable def pi_0 (w : Write_T) (B : List UInt8) (i : Int) : Option (St ⊕ (Ex × St)) := stepK Try.prog cfg PKw7 LP0 70 2 (piHd false w B i)
noncomputable def pi_1 (w : Write_T) (B : List UInt8) (i : Int) : Option (St ⊕ (Ex × St)) := stepK Try.prog cfg PKw7 LP0 70 2 (piHd true w B i)
noncomputable def pi_0_r (w : Write_T) (B : List UInt8) (i : Int) : Option (St ⊕ Ex × St) :=
  bK (decide (0 + (List.map cB B).length ≤ (List.map cB B).length)) (bK (decide ((↑(List.map cB B).length : Int) ≤ IntKind.i64.wrap (w.fst + i))) (bK (decide (0 + (List.map cB B).length ≤ (List.map cB B).length)) (bK (decide (0 = 0 ∧ (List.map cB B).length = (List.map cB B).length) && bytesFit Try.prog 5 ((List.map cB B).length + 1)) (some (Sum.inl { fr := [(3, AV.ptr 48 0 0 0), (5, AV.sref 464 0 0 ((List.map cB B).length + 1)), (6, AV.int IntKind.i64 i)], bs := [(48, { v := 0, k := BK.box, fz := false, sz := 0, es := [AV.int IntKind.i64 w.fst, AV.str w.snd] }), (192, { v := 0, k := BK.dead, fz := false, sz := 1, es := [] }), (464, { v := 0, k := BK.row, fz := false, sz := 1, es := List.take (List.map cB B).length (List.map cB B) ++ [AV.int IntKind.u8 0] })], df := [] })) none) none) (some (Sum.inr (Ex.exit 2, { fr := [(3, AV.ptr 48 0 0 0), (5, AV.sref 192 0 0 (List.map cB B).length), (6, AV.int IntKind.i64 i)], bs := [(48, { v := 0, k := BK.box, fz := false, sz := 0, es := [AV.int IntKind.i64 w.fst, AV.str w.snd] }), (192, { v := 0, k := BK.row, fz := false, sz := 1, es := List.map cB B })], df := [] })))) none
theorem pi_0_w (w : Write_T) (B : List UInt8) (i : Int) : pi_0 w B i = pi_0_r w B i := by kernel_rfl

noncomputable def pi_1_r (w : Write_T) (B : List UInt8) (i : Int) : Option (St ⊕ Ex × St) :=
  bK (decide (0 + (List.map cB B).length ≤ (List.map cB B).length)) (bK (decide ((↑(List.map cB B).length : Int) ≤ IntKind.i64.wrap (w.fst + i))) (bK (decide (0 + (List.map cB B).length ≤ (List.map cB B).length)) (bK (decide (0 = 0 ∧ (List.map cB B).length = (List.map cB B).length) && bytesFit Try.prog 5 ((List.map cB B).length + 1)) (some (Sum.inl { fr := [(3, AV.ptr 48 0 0 0), (5, AV.sref 464 0 0 ((List.map cB B).length + 1)), (6, AV.int IntKind.i64 i)], bs := [(48, { v := 0, k := BK.box, fz := false, sz := 0, es := [AV.int IntKind.i64 w.fst, AV.str w.snd] }), (192, { v := 0, k := BK.dead, fz := false, sz := 1, es := [] }), (464, { v := 0, k := BK.row, fz := false, sz := 1, es := List.take (List.map cB B).length (List.map cB B) ++ [AV.int IntKind.u8 0] })], df := [] })) none) none) (some (Sum.inr (Ex.exit 2, { fr := [(3, AV.ptr 48 0 0 0), (5, AV.sref 464 0 0 (List.map cB B).length), (6, AV.int IntKind.i64 i)], bs := [(48, { v := 0, k := BK.box, fz := false, sz := 0, es := [AV.int IntKind.i64 w.fst, AV.str w.snd] }), (192, { v := 0, k := BK.dead, fz := false, sz := 1, es := [] }), (464, { v := 0, k := BK.row, fz := false, sz := 1, es := List.map cB B })], df := [] })))) none
theorem pi_1_w (w : Write_T) (B : List UInt8) (i : Int) : pi_1 w B i = pi_1_r w B i := by kernel_rfl

theorem bytes5 : Try.prog.bytesOf 5 = 1 := by kernel_rfl
theorem fit5 {n : Nat} (h : n ≤ 1000000) : bytesFit Try.prog 5 n = true := by
  simp only [bytesFit, bytes5, decide_eq_true_eq]; omega
theorem loops70 : (loopsOf 0 (codeOf Try.prog 70)).map (·.1) = [0, 2] := by kernel_rfl
theorem one70 : OneLoops Try.prog 70 := by unfold OneLoops; rw [loops70]; decide
theorem at70_0 : At 0 (codeOf Try.prog 70) 0 (.loop (bodyAt Try.prog 70 0)) := at_body one70 (by rw [loops70]; decide)
theorem at70_2 : At 0 (codeOf Try.prog 70) 2 (.loop (bodyAt Try.prog 70 2)) := at_body one70 (by rw [loops70]; decide)
theorem map_snoc (B : List UInt8) : (B ++ [0]).map cB = List.take (B.map cB).length (B.map cB) ++ [AV.int .u8 0] := by
  rw [List.take_length, List.map_append]; rfl
theorem len_snoc (B : List UInt8) : ((B ++ [0]).map cB).length = (B.map cB).length + 1 := by simp
theorem hd_snoc (w : Write_T) (B : List UInt8) (i : Int) : piHd true w (B ++ [0]) i = { fr := [(3, .ptr 48 0 0 0), (5, .sref 464 0 0 ((B.map cB).length + 1)), (6, .int .i64 i)], bs := [(48, boxB (Tu.mk Write_tfs w)), (192, deadB), (464, { v := 0, k := .row, fz := false, sz := 1, es := List.take (B.map cB).length (B.map cB) ++ [AV.int .u8 0] })], df := [] } := by
  rw [← map_snoc, ← len_snoc]; rfl
theorem pi_step0 (w : Write_T) (B : List UInt8) (i : Int) (n : Nat) (hn : IntKind.i64.wrap (w.1 + i) = (n : Int)) (hB : B.length ≤ n) (hn' : n ≤ 1000) : pi_0_r w B i = some (.inl (piHd true w (B ++ [0]) i)) := by
  unfold pi_0_r
  rw [hn, hd_snoc, bK_pos (by simp), bK_pos (by simp; omega), bK_pos (by simp), bK_pos (by simp [fit5 (show B.length + 1 ≤ 1000000 by omega)])]
  rfl
theorem pi_step1 (w : Write_T) (B : List UInt8) (i : Int) (n : Nat) (hn : IntKind.i64.wrap (w.1 + i) = (n : Int)) (hB : B.length ≤ n) (hn' : n ≤ 1000) : pi_1_r w B i = some (.inl (piHd true w (B ++ [0]) i)) := by
  unfold pi_1_r
  rw [hn, hd_snoc, bK_pos (by simp), bK_pos (by simp; omega), bK_pos (by simp), bK_pos (by simp [fit5 (show B.length + 1 ≤ 1000000 by omega)])]
  rfl
theorem padB_snoc {B : List UInt8} {n : Nat} (h : B.length < n) : padB (B ++ [0]) n = padB B n := by
  unfold padB
  obtain ⟨k, hk⟩ : ∃ k, n - B.length = k + 1 := ⟨n - B.length - 1, by omega⟩
  rw [hk, List.length_append, show n - (B.length + [(0 : UInt8)].length) = k by simp; omega, List.replicate_succ, List.append_assoc]
  rfl
theorem padB_ge {B : List UInt8} {n : Nat} (h : n ≤ B.length) : padB B n = B := by
  unfold padB
  rw [show n - B.length = 0 by omega]; simp
theorem pi_run1 (w : Write_T) (i : Int) (n : Nat) (hn : IntKind.i64.wrap (w.1 + i) = (n : Int)) (hn' : n ≤ 1000) : ∀ (j : Nat) (B : List UInt8), n + 1 - B.length = j → ∀ m : Nat, j < m →
    Runs' Try.prog cfg PKw7 70 2 m (piHd true w B i) (.exit 2, piHd true w (padB B (n + 1)) i)
  | 0, B, hB, m + 1, hm => by
    rw [padB_ge (by omega)]
    refine Runs'.done (lp := LP0) LPok.none at70_2 ((pi_1_w w B i).trans ?_)
    unfold pi_1_r
    rw [hn, bK_pos (by simp), bK_neg (by simp; omega)]
    rfl
  | j + 1, B, hB, m + 1, hm => by
    rw [← padB_snoc (by omega)]
    exact Runs'.step (lp := LP0) LPok.none at70_2 ((pi_1_w w B i).trans (pi_step1 w B i n hn (by omega) hn')) (pi_run1 w i n hn hn' j (B ++ [0]) (by simp; omega) m (by omega))
theorem pi_run0 (w : Write_T) (i : Int) (n : Nat) (hn : IntKind.i64.wrap (w.1 + i) = (n : Int)) (hn' : n ≤ 1000) (B : List UInt8) (m : Nat) (hm : 2000 ≤ m) :
    Runs' Try.prog cfg PKw7 70 2 m (piHd false w B i) (.exit 2, piHd (decide (B.length ≤ n)) w (padB B (n + 1)) i) := by
  obtain ⟨m, rfl⟩ : ∃ k, m = k + 1 := ⟨m - 1, by omega⟩
  by_cases h : B.length ≤ n
  · rw [decide_eq_true h, ← padB_snoc (by omega)]
    exact Runs'.step (lp := LP0) LPok.none at70_2 ((pi_0_w w B i).trans (pi_step0 w B i n hn h hn')) (pi_run1 w i n hn hn' (n + 1 - (B ++ [0]).length) (B ++ [0]) rfl m (by omega))
  · rw [decide_eq_false h, padB_ge (by omega)]
    refine Runs'.done (lp := LP0) LPok.none at70_2 ((pi_0_w w B i).trans ?_)
    unfold pi_0_r
    rw [hn, bK_pos (by simp), bK_neg (by simp; omega)]
    rfl
abbrev PiD : Type := Bool × Write_T × List UInt8 × Int
def piH (d : PiD) : St := piHd d.1 d.2.1 d.2.2.1 d.2.2.2
def piP (d : PiD) : Prop := ∃ n : Nat, IntKind.i64.wrap (d.2.1.1 + d.2.2.2) = (n : Int) ∧ n ≤ 1000
def piN (d : PiD) : Nat := (IntKind.i64.wrap (d.2.1.1 + d.2.2.2)).toNat
/-- With what is lacking. -/
def padF (d : PiD) : List UInt8 := padB d.2.2.1 (piN d + 1)
/-- Was something lacking? -/
def padQ (d : PiD) : Bool := d.1 || decide (d.2.2.1.length ≤ piN d)
noncomputable def piL : LP := LP.of (D := PiD) piH piP fun d => .ite (padQ d) (.leaf (.exit 2, piHd true d.2.1 (padF d) d.2.2.2)) (.leaf (.exit 2, piHd false d.2.1 (padF d) d.2.2.2))
noncomputable def LPp : LPs := LPs.add LP0 70 2 piL
theorem LPp_ok : LPok Try.prog cfg PKw7 LPp 70 := LPok.addH LPok.none one70 (by
  rintro ⟨q, w, B, i⟩ ⟨n, hn, hn'⟩
  simp only at hn
  have e : piN (q, w, B, i) = n := by unfold piN; simp only [hn]; omega
  have ep : padF (q, w, B, i) = padB B (n + 1) := by unfold padF; rw [e]
  cases q with
  | true =>
    have eq : padQ (true, w, B, i) = true := rfl
    simp only [Alt.val, eq, if_true, ep]
    exact pi_run1 w i n hn hn' (n + 1 - B.length) B rfl rounds (by simp only [rounds]; omega)
  | false =>
    have eq : padQ (false, w, B, i) = decide (B.length ≤ n) := by unfold padQ; rw [e]; rfl
    have hr := pi_run0 w i n hn hn' B rounds (by simp only [rounds]; omega)
    simp only [Alt.val, eq, ep]
    by_cases h : B.length ≤ n
    · rw [decide_eq_true h] at hr ⊢; exact hr
    · rw [decide_eq_false h] at hr ⊢; exact hr)
theorem cB_inj {c d : UInt8} (h : cB c = cB d) : c = d := by
  simp only [cB, AV.int.injEq, true_and] at h
  exact UInt8.toNat_inj.1 (by omega)
theorem mapB_inj : ∀ {B B' : List UInt8}, B.map cB = B'.map cB → B = B'
  | [], [], _ => rfl
  | [], _ :: _, h => by simp at h
  | _ :: _, [], h => by simp at h
  | b :: B, c :: B', h => by
    simp only [List.map_cons, List.cons.injEq] at h
    rw [cB_inj h.1, mapB_inj h.2]
theorem piH_inj (d d' : PiD) (h : piH d = piH d') : d = d' := by
  obtain ⟨q, w, B, i⟩ := d
  obtain ⟨q', w', B', i'⟩ := d'
  cases q <;> cases q' <;> simp [piH, piHd, rowsB, rowB, deadB, boxB, keyB] at h
  · obtain ⟨⟨_, h1⟩, h2, h3⟩ := h
    rw [h1, mk_inj (fs := Write_tfs) rfl h2, mapB_inj h3]
  · obtain ⟨⟨_, h1⟩, h2, h3⟩ := h
    rw [h1, mk_inj (fs := Write_tfs) rfl h2, mapB_inj h3]
noncomputable def po_0 (w : Write_T) (B : List UInt8) (i : Int) : Option (St ⊕ (Ex × St)) := stepK Try.prog cfg PKw7 LPp 70 0 (piHd false w B i)
noncomputable def po_1 (w : Write_T) (B : List UInt8) (i : Int) : Option (St ⊕ (Ex × St)) := stepK Try.prog cfg PKw7 LPp 70 0 (piHd true w B i)
noncomputable def po_0_r (w : Write_T) (B : List UInt8) (i : Int) : Option (St ⊕ Ex × St) :=
  bK (decide (i < (↑(List.length w.snd) : Int)))
  (oK (piL.dec { fr := [(3, AV.ptr 48 0 0 0), (5, AV.sref 192 0 0 (List.map cB B).length), (6, AV.int IntKind.i64 i)], bs := [(48, { v := 0, k := BK.box, fz := false, sz := 0, es := [AV.int IntKind.i64 w.fst, AV.str w.snd] }), (192, { v := 0, k := BK.row, fz := false, sz := 1, es := List.map cB B })], df := [] }) fun (d0 : Bool × (Int × List UInt8) × List UInt8 × Int) =>
    bK (padQ d0) (bK (decide (0 ≤ d0.snd.snd.snd)) (oK d0.snd.fst.snd[d0.snd.snd.snd.toNat]? fun (d1 : UInt8) => bK (decide (0 ≤ IntKind.i64.wrap (d0.snd.fst.fst + d0.snd.snd.snd) ∧ IntKind.i64.wrap (d0.snd.fst.fst + d0.snd.snd.snd) < (↑(List.map cB (padF d0)).length : Int))) (oK (stRow (List.map cB (padF d0)) (0 + (IntKind.i64.wrap (d0.snd.fst.fst + d0.snd.snd.snd)).toNat) 0 [AV.int IntKind.u8 (↑d1.toNat : Int)]) fun (d2 : List AV) => some (Sum.inl { fr := [(3, AV.ptr 48 0 0 0), (5, AV.sref 464 0 0 (List.map cB (padF d0)).length), (6, AV.int IntKind.i64 (IntKind.i64.wrap (d0.snd.snd.snd + 1)))], bs := [(48, { v := 0, k := BK.box, fz := false, sz := 0, es := [AV.int IntKind.i64 d0.snd.fst.fst, AV.str d0.snd.fst.snd] }), (192, { v := 0, k := BK.dead, fz := false, sz := 1, es := [] }), (464, { v := 0, k := BK.row, fz := false, sz := 1, es := d2 })], df := [] })) none) none)
      (bK (decide (0 ≤ d0.snd.snd.snd)) (oK d0.snd.fst.snd[d0.snd.snd.snd.toNat]? fun (d3 : UInt8) => bK (decide (0 ≤ IntKind.i64.wrap (d0.snd.fst.fst + d0.snd.snd.snd) ∧ IntKind.i64.wrap (d0.snd.fst.fst + d0.snd.snd.snd) < (↑(List.map cB (padF d0)).length : Int))) (oK (stRow (List.map cB (padF d0)) (0 + (IntKind.i64.wrap (d0.snd.fst.fst + d0.snd.snd.snd)).toNat) 0 [AV.int IntKind.u8 (↑d3.toNat : Int)]) fun (d4 : List AV) => some (Sum.inl { fr := [(3, AV.ptr 48 0 0 0), (5, AV.sref 192 0 0 (List.map cB (padF d0)).length), (6, AV.int IntKind.i64 (IntKind.i64.wrap (d0.snd.snd.snd + 1)))], bs := [(48, { v := 0, k := BK.box, fz := false, sz := 0, es := [AV.int IntKind.i64 d0.snd.fst.fst, AV.str d0.snd.fst.snd] }), (192, { v := 0, k := BK.row, fz := false, sz := 1, es := d4 })], df := [] })) none) none))
  (some (Sum.inr (Ex.exit 0, { fr := [(5, AV.sref 192 0 0 (List.map cB B).length)], bs := [(192, { v := 0, k := BK.row, fz := false, sz := 1, es := List.map cB B })], df := [] })))
theorem po_0_w (w : Write_T) (B : List UInt8) (i : Int) : po_0 w B i = po_0_r w B i := by kernel_rfl

noncomputable def po_1_r (w : Write_T) (B : List UInt8) (i : Int) : Option (St ⊕ Ex × St) :=
  bK (decide (i < (↑(List.length w.snd) : Int)))
  (oK (piL.dec { fr := [(3, AV.ptr 48 0 0 0), (5, AV.sref 464 0 0 (List.map cB B).length), (6, AV.int IntKind.i64 i)], bs := [(48, { v := 0, k := BK.box, fz := false, sz := 0, es := [AV.int IntKind.i64 w.fst, AV.str w.snd] }), (192, { v := 0, k := BK.dead, fz := false, sz := 1, es := [] }), (464, { v := 0, k := BK.row, fz := false, sz := 1, es := List.map cB B })], df := [] }) fun (d0 : Bool × (Int × List UInt8) × List UInt8 × Int) =>
    bK (padQ d0) (bK (decide (0 ≤ d0.snd.snd.snd)) (oK d0.snd.fst.snd[d0.snd.snd.snd.toNat]? fun (d1 : UInt8) => bK (decide (0 ≤ IntKind.i64.wrap (d0.snd.fst.fst + d0.snd.snd.snd) ∧ IntKind.i64.wrap (d0.snd.fst.fst + d0.snd.snd.snd) < (↑(List.map cB (padF d0)).length : Int))) (oK (stRow (List.map cB (padF d0)) (0 + (IntKind.i64.wrap (d0.snd.fst.fst + d0.snd.snd.snd)).toNat) 0 [AV.int IntKind.u8 (↑d1.toNat : Int)]) fun (d2 : List AV) => some (Sum.inl { fr := [(3, AV.ptr 48 0 0 0), (5, AV.sref 464 0 0 (List.map cB (padF d0)).length), (6, AV.int IntKind.i64 (IntKind.i64.wrap (d0.snd.snd.snd + 1)))], bs := [(48, { v := 0, k := BK.box, fz := false, sz := 0, es := [AV.int IntKind.i64 d0.snd.fst.fst, AV.str d0.snd.fst.snd] }), (192, { v := 0, k := BK.dead, fz := false, sz := 1, es := [] }), (464, { v := 0, k := BK.row, fz := false, sz := 1, es := d2 })], df := [] })) none) none)
      (bK (decide (0 ≤ d0.snd.snd.snd)) (oK d0.snd.fst.snd[d0.snd.snd.snd.toNat]? fun (d3 : UInt8) => bK (decide (0 ≤ IntKind.i64.wrap (d0.snd.fst.fst + d0.snd.snd.snd) ∧ IntKind.i64.wrap (d0.snd.fst.fst + d0.snd.snd.snd) < (↑(List.map cB (padF d0)).length : Int))) (oK (stRow (List.map cB (padF d0)) (0 + (IntKind.i64.wrap (d0.snd.fst.fst + d0.snd.snd.snd)).toNat) 0 [AV.int IntKind.u8 (↑d3.toNat : Int)]) fun (d4 : List AV) => some (Sum.inl { fr := [(3, AV.ptr 48 0 0 0), (5, AV.sref 192 0 0 (List.map cB (padF d0)).length), (6, AV.int IntKind.i64 (IntKind.i64.wrap (d0.snd.snd.snd + 1)))], bs := [(48, { v := 0, k := BK.box, fz := false, sz := 0, es := [AV.int IntKind.i64 d0.snd.fst.fst, AV.str d0.snd.fst.snd] }), (192, { v := 0, k := BK.row, fz := false, sz := 1, es := d4 })], df := [] })) none) none))
  (some (Sum.inr (Ex.exit 0, { fr := [(5, AV.sref 464 0 0 (List.map cB B).length)], bs := [(192, { v := 0, k := BK.dead, fz := false, sz := 1, es := [] }), (464, { v := 0, k := BK.row, fz := false, sz := 1, es := List.map cB B })], df := [] })))
theorem po_1_w (w : Write_T) (B : List UInt8) (i : Int) : po_1 w B i = po_1_r w B i := by kernel_rfl

theorem stB (L : List UInt8) (k : Nat) (h : k < L.length) (d : UInt8) : stRow (L.map cB) k 0 [.int .u8 (d.toNat : Int)] = some ((L.set k d).map cB) := by
  simp [stRow, h, splice, AV.cells, AV.recell, cB, List.map_set]
def refB (b : List UInt8) (w : Write_T) : Nat → List UInt8
  | 0 => b
  | i + 1 => (padB (refB b w i) (w.1.toNat + i + 1)).set (w.1.toNat + i) (w.2[i]?.getD 0)
theorem refB_len (b : List UInt8) (w : Write_T) : ∀ i : Nat, (refB b w i).length = if i = 0 then b.length else max b.length (w.1.toNat + i)
  | 0 => rfl
  | i + 1 => by
    have := refB_len b w i
    rw [if_neg (by omega)]
    unfold refB
    rw [List.length_set, padB_len, this]
    split <;> omega
theorem set_get (L : List UInt8) (k j : Nat) (d : UInt8) (h : k < L.length) : (L.set k d)[j]?.getD 0 = if j = k then d else L[j]?.getD 0 := by
  rw [List.getElem?_set]
  by_cases e : k = j
  · subst e; rw [if_pos rfl, if_pos h, if_pos rfl]; rfl
  · rw [if_neg e, if_neg (fun hh => e hh.symm)]
theorem refB_get (b : List UInt8) (w : Write_T) : ∀ i : Nat, ∀ k : Nat, (refB b w i)[k]?.getD 0 = if w.1.toNat ≤ k ∧ k < w.1.toNat + i then w.2[k - w.1.toNat]?.getD 0 else b[k]?.getD 0
  | 0, k => by rw [if_neg (by omega)]; rfl
  | i + 1, k => by
    unfold refB
    have hl := refB_len b w i
    rw [set_get _ _ _ _ (by rw [padB_len]; omega), padB_get, refB_get b w i k]
    by_cases h1 : k = w.1.toNat + i
    · subst h1
      rw [if_pos rfl, if_pos (by omega)]
      congr 2
      omega
    · rw [if_neg h1]
      by_cases h2 : w.1.toNat ≤ k ∧ k < w.1.toNat + i
      · rw [if_pos h2, if_pos (by omega)]
      · rw [if_neg h2, if_neg (by omega)]
theorem refB_put {b : List UInt8} {w : Write_T} (h : mayB w) : refB b w w.2.length = putB b w := by
  have hm' : 0 ≤ w.1 ∧ 1 ≤ w.2.length ∧ w.2.length ≤ 24 ∧ w.1 ≤ 24 - (w.2.length : Int) := h
  refine eq_of_get ?_ (fun k => ?_)
  · rw [refB_len, putB_len h, if_neg (by omega)]
  · rw [refB_get, putB_get h]
theorem hd_set (q : Bool) (w : Write_T) (L : List UInt8) (k : Nat) (d : UInt8) (i : Int) : piHd q w (L.set k d) i = { fr := [(3, .ptr 48 0 0 0), (5, .sref (keyB q) 0 0 (L.map cB).length), (6, .int .i64 i)], bs := (48, boxB (Tu.mk Write_tfs w)) :: rowsB q (L.set k d), df := [] } := by
  unfold piHd
  rw [show ((L.set k d).map cB).length = (L.map cB).length by simp]
theorem po_step0 (w : Write_T) (B : List UInt8) (i : Nat) (hm : mayB w) (hi : i < w.2.length) : po_0_r w B i = some (.inl (piHd (false || decide (B.length ≤ w.1.toNat + i)) w ((padB B (w.1.toNat + i + 1)).set (w.1.toNat + i) (w.2[i]?.getD 0)) ((i + 1 : Nat) : Int))) := by
  have hm' : 0 ≤ w.1 ∧ 1 ≤ w.2.length ∧ w.2.length ≤ 24 ∧ w.1 ≤ 24 - (w.2.length : Int) := hm
  have e1 : IntKind.i64.wrap (w.1 + (i : Int)) = ((w.1.toNat + i : Nat) : Int) := by rw [w64 (by omega) (by omega)]; omega
  have e2 : IntKind.i64.wrap ((i : Int) + 1) = ((i + 1 : Nat) : Int) := by rw [w64 (by omega) (by omega)]; omega
  have ep : piN (false, w, B, (i : Int)) = w.1.toNat + i := by unfold piN; simp only [e1]; omega
  have eF : padF (false, w, B, (i : Int)) = padB B (w.1.toNat + i + 1) := by unfold padF; rw [ep]
  have eQ : padQ (false, w, B, (i : Int)) = (false || decide (B.length ≤ w.1.toNat + i)) := by unfold padQ; rw [ep]
  have hlen : w.1.toNat + i < (padB B (w.1.toNat + i + 1)).length := by rw [padB_len]; omega
  have hg : w.2[(i : Int).toNat]? = some (w.2[i]?.getD 0) := by rw [Int.toNat_natCast, List.getElem?_eq_getElem hi]; rfl
  unfold po_0_r
  rw [bK_pos (by simp; omega)]
  refine oK_lpq (Q := fun z => z = _) piH_inj (false, w, B, (i : Int)) ⟨w.1.toNat + i, e1, by omega⟩ ?_
  dsimp only
  rw [eF, eQ, e1, e2, hd_set]
  refine bK_b (fun hq => ?_) (fun hq => ?_)
  · rw [bK_pos (by simp)]
    refine (oK_pos hg).trans ?_
    rw [bK_pos (by simp; omega)]
    rw [Nat.zero_add, Int.toNat_natCast]
    refine (oK_pos (stB _ _ hlen _)).trans ?_
    rw [hq]; rfl
  · rw [bK_pos (by simp)]
    refine (oK_pos hg).trans ?_
    rw [bK_pos (by simp; omega)]
    rw [Nat.zero_add, Int.toNat_natCast]
    refine (oK_pos (stB _ _ hlen _)).trans ?_
    rw [hq]; rfl
theorem po_step1 (w : Write_T) (B : List UInt8) (i : Nat) (hm : mayB w) (hi : i < w.2.length) : po_1_r w B i = some (.inl (piHd (true || decide (B.length ≤ w.1.toNat + i)) w ((padB B (w.1.toNat + i + 1)).set (w.1.toNat + i) (w.2[i]?.getD 0)) ((i + 1 : Nat) : Int))) := by
  have hm' : 0 ≤ w.1 ∧ 1 ≤ w.2.length ∧ w.2.length ≤ 24 ∧ w.1 ≤ 24 - (w.2.length : Int) := hm
  have e1 : IntKind.i64.wrap (w.1 + (i : Int)) = ((w.1.toNat + i : Nat) : Int) := by rw [w64 (by omega) (by omega)]; omega
  have e2 : IntKind.i64.wrap ((i : Int) + 1) = ((i + 1 : Nat) : Int) := by rw [w64 (by omega) (by omega)]; omega
  have ep : piN (true, w, B, (i : Int)) = w.1.toNat + i := by unfold piN; simp only [e1]; omega
  have eF : padF (true, w, B, (i : Int)) = padB B (w.1.toNat + i + 1) := by unfold padF; rw [ep]
  have eQ : padQ (true, w, B, (i : Int)) = (true || decide (B.length ≤ w.1.toNat + i)) := by unfold padQ; rw [ep]
  have hlen : w.1.toNat + i < (padB B (w.1.toNat + i + 1)).length := by rw [padB_len]; omega
  have hg : w.2[(i : Int).toNat]? = some (w.2[i]?.getD 0) := by rw [Int.toNat_natCast, List.getElem?_eq_getElem hi]; rfl
  unfold po_1_r
  rw [bK_pos (by simp; omega)]
  refine oK_lpq (Q := fun z => z = _) piH_inj (true, w, B, (i : Int)) ⟨w.1.toNat + i, e1, by omega⟩ ?_
  dsimp only
  rw [eF, eQ, e1, e2, hd_set]
  rw [Bool.true_or, bK_pos rfl, bK_pos (by simp)]
  refine (oK_pos hg).trans ?_
  rw [bK_pos (by simp; omega)]
  rw [Nat.zero_add, Int.toNat_natCast]
  refine (oK_pos (stB _ _ hlen _)).trans ?_
  rfl
def poQ (b : List UInt8) (w : Write_T) (i : Nat) : Bool := decide (1 ≤ i ∧ b.length < w.1.toNat + i)
theorem poQ_next (b : List UInt8) (w : Write_T) (i : Nat) : (poQ b w i || decide ((refB b w i).length ≤ w.1.toNat + i)) = poQ b w (i + 1) := by
  have hl := refB_len b w i
  unfold poQ
  by_cases h0 : i = 0
  · subst h0
    rw [if_pos rfl] at hl
    rw [hl]
    by_cases h : b.length ≤ w.1.toNat + 0
    · rw [decide_eq_true h, Bool.or_true]; exact (decide_eq_true (by omega)).symm
    · rw [decide_eq_false h, decide_eq_false (by omega)]; exact (decide_eq_false (by omega)).symm
  · rw [if_neg h0] at hl
    rw [hl]
    by_cases h : b.length ≤ w.1.toNat + i
    · rw [decide_eq_true (p := max b.length (w.1.toNat + i) ≤ w.1.toNat + i) (by omega), Bool.or_true]; exact (decide_eq_true (by omega)).symm
    · rw [decide_eq_false (p := max b.length (w.1.toNat + i) ≤ w.1.toNat + i) (by omega), decide_eq_false (by omega)]; exact (decide_eq_false (by omega)).symm
def poEnd (q : Bool) (B : List UInt8) : St := { fr := [(5, .sref (keyB q) 0 0 (B.map cB).length)], bs := rowsB q B, df := [] }
theorem po_run (w : Write_T) (b : List UInt8) (hm : mayB w) : ∀ (j i : Nat), i + j = w.2.length → ∀ (m : Nat), j < m →
    Runs' Try.prog cfg PKw7 70 0 m (piHd (poQ b w i) w (refB b w i) i) (.exit 0, poEnd (poQ b w w.2.length) (putB b w))
  | 0, i, hi, m + 1, hmm => by
    have hi' : i = w.2.length := by omega
    rw [hi', refB_put hm]
    cases hq : poQ b w w.2.length with
    | false =>
      refine Runs'.done (lp := LPp) LPp_ok at70_0 ((po_0_w w (putB b w) _).trans ?_)
      unfold po_0_r
      rw [bK_neg (by simp)]
      rfl
    | true =>
      refine Runs'.done (lp := LPp) LPp_ok at70_0 ((po_1_w w (putB b w) _).trans ?_)
      unfold po_1_r
      rw [bK_neg (by simp)]
      rfl
  | j + 1, i, hi, m + 1, hmm => by
    have ih := po_run w b hm j (i + 1) (by omega) m (by omega)
    have hn := poQ_next b w i
    cases hq : poQ b w i with
    | false =>
      rw [hq] at hn
      have := po_step0 w (refB b w i) i hm (by omega)
      rw [hn] at this
      exact Runs'.step (lp := LPp) LPp_ok at70_0 ((po_0_w w (refB b w i) i).trans this) ih
    | true =>
      rw [hq] at hn
      have := po_step1 w (refB b w i) i hm (by omega)
      rw [hn] at this
      exact Runs'.step (lp := LPp) LPp_ok at70_0 ((po_1_w w (refB b w i) i).trans this) ih
abbrev PoD : Type := Write_T × List UInt8
def poH (d : PoD) : St := piHd false d.1 d.2 0
/-- With it. -/
def poF (d : PoD) : List UInt8 := putB d.2 d.1
def poR (d : PoD) : Bool := poQ d.2 d.1 d.1.2.length
noncomputable def poL : LP := LP.of (D := PoD) poH (fun d => mayB d.1) fun d => .ite (poR d) (.leaf (.exit 0, poEnd true (poF d))) (.leaf (.exit 0, poEnd false (poF d)))
noncomputable def LPo : LPs := LPs.add LPp 70 0 poL
theorem LPo_ok : LPok Try.prog cfg PKw7 LPo 70 := LPok.addH LPp_ok one70 (by
  rintro ⟨w, b⟩ hm
  have hr := po_run w b hm w.2.length 0 (by omega) rounds (by have : mayB w := hm; have := this.2.2.1; simp only [rounds]; omega)
  have h0 : poQ b w 0 = false := rfl
  rw [h0] at hr
  have e : poR (w, b) = poQ b w w.2.length := rfl
  cases hq : poQ b w w.2.length with
  | false => rw [hq] at hr e; simp only [Alt.val, e]; exact hr
  | true => rw [hq] at hr e; simp only [Alt.val, e]; exact hr)
theorem poH_inj (d d' : PoD) (h : poH d = poH d') : d = d' := by
  obtain ⟨w, B⟩ := d
  obtain ⟨w', B'⟩ := d'
  have := piH_inj (false, w, B, 0) (false, w', B', 0) h
  simp only [Prod.mk.injEq, and_true, true_and] at this
  rw [this.1, this.2]
abbrev putR_id : Nat := 70
abbrev putR_sh : Shp := [none, some 2]
abbrev putR_fs : List Lf := [.fs, .fi .i64, .fs]
abbrev putR_rsh : Shp := [none]
abbrev putR_rfs : List Lf := [.fs]
noncomputable def putR_r (body : List UInt8) (w_Off : Int) (w_B : List UInt8) : Option Ret :=
  oK (mayRS.dec [AV.agg [AV.int IntKind.i64 w_Off, AV.str w_B]] []) fun (d0 : Int × List UInt8) => bK (!decide (mayB d0)) (some { pan := false, res := AV.str body, out := [], new := [] }) (bK (decide (body.length < 1000000000)) (oK (poL.dec { fr := [(3, AV.ptr 48 0 0 0), (5, AV.sref 192 0 0 (List.map (fun (c : UInt8) => AV.int IntKind.u8 (↑c.toNat : Int)) body).length), (6, AV.int IntKind.i64 0)], bs := [(48, { v := 0, k := BK.box, fz := false, sz := 0, es := [AV.int IntKind.i64 w_Off, AV.str w_B] }), (192, { v := 0, k := BK.row, fz := false, sz := 1, es := List.map (fun (c : UInt8) => AV.int IntKind.u8 (↑c.toNat : Int)) body })], df := [] }) fun (d1 : (Int × List UInt8) × List UInt8) => bK (poR d1) (bK (decide (0 + (List.map cB (poF d1)).length ≤ (List.map cB (poF d1)).length)) (oK (bytesOf? (List.take (List.map cB (poF d1)).length (List.drop 0 (List.map cB (poF d1))))) fun (d2 : List UInt8) => some { pan := false, res := AV.str d2, out := [], new := [] }) none) (bK (decide (0 + (List.map cB (poF d1)).length ≤ (List.map cB (poF d1)).length)) (oK (bytesOf? (List.take (List.map cB (poF d1)).length (List.drop 0 (List.map cB (poF d1))))) fun (d3 : List UInt8) => some { pan := false, res := AV.str d3, out := [], new := [] }) none)) none)
theorem putR_w (body : List UInt8) (w_Off : Int) (w_B : List UInt8) : unitQ Try.prog cfg PKw7 LPo false 70 (groupA putR_sh (Tu.mk putR_fs (body, w_Off, w_B))) [] = putR_r body w_Off w_B := by kernel_rfl

theorem bytes_map : ∀ B : List UInt8, bytesOf? (B.map cB) = some B
  | [] => rfl
  | b :: B => by
    simp only [List.map_cons, cB, bytesOf?]
    rw [bytes_map B]
    simp
noncomputable def putRS : FS := ⟨putR_sh, putR_fs, putR_rsh, putR_rfs, fun d => d.1.length ≤ 1000, fun d => putB d.1 d.2, none⟩
theorem putR_v (body : List UInt8) (w_Off : Int) (w_B : List UInt8) (h : putRS.pre (body, w_Off, w_B)) : putR_r body w_Off w_B = some (putRS.ret (body, w_Off, w_B)) := by
  have h' : body.length ≤ 1000 := h
  show _ = some (putRS.out (putB body (w_Off, w_B)))
  unfold putR_r
  refine oK_fsq (Q := fun z => z = _) mayRS (w_Off, w_B) trivial ?_
  refine bK_n (fun hn => ?_) (fun hy => ?_)
  · unfold putB
    rw [if_neg hn]; rfl
  · rw [bK_pos (by simp; omega)]
    refine oK_lpq (Q := fun z => z = _) poH_inj ((w_Off, w_B), body) hy ?_
    have e : List.take (List.map cB (poF ((w_Off, w_B), body))).length (List.drop 0 (List.map cB (poF ((w_Off, w_B), body)))) = List.map cB (putB body (w_Off, w_B)) := by
      rw [List.drop_zero, List.take_length]; rfl
    rw [e]
    refine bK_b (fun _ => ?_) (fun _ => ?_)
    · rw [bK_pos (by simp)]
      exact oK_pos (bytes_map _)
    · rw [bK_pos (by simp)]
      exact oK_pos (bytes_map _)
theorem putR_ok : ∀ (d : Tu putR_fs), putRS.pre d → unitQ Try.prog cfg PKw7 LPo false 70 (putRS.args d) [] = some (putRS.ret d)
  | (body, w_Off, w_B), h => (putR_w body w_Off w_B).trans (putR_v body w_Off w_B h)
noncomputable def PKw8 : PKs := PKw7.add 70 putRS.pk
theorem PKw8_ok : PKsOk Try.prog PKw8 := PKsOk.fs (cfg := cfg) PKw7_ok (fnOk PKw7_ok 21) 70 rfl LPo LPo_ok.loops putRS putR_ok

def arHd (x : Bool) (l : List Write_T) (b : List UInt8) (i : Int) : St := { fr := [(0, .str b), (1, .slc x (l.map (mkV true Write_tfs))), (5, .int .i64 i)], bs := [], df := [] }
noncomputable def ar_s (x : Bool) (l : List Write_T) (b : List UInt8) (i : Int) : Option (St ⊕ (Ex × St)) := stepK Try.prog cfg PKw8 LP0 49 0 (arHd x l b i)
noncomputable def ar_s_r (x : Bool) (l : List Write_T) (b : List UInt8) (i : Int) : Option (St ⊕ Ex × St) :=
  bK (decide (i < (↑(List.map (mkV true Write_tfs) l).length : Int))) (oK (elemAt true Write_tfs (List.map (mkV true Write_tfs) l) i) fun (d0 : Int × List UInt8) => oK (putRS.dec [AV.str b, AV.agg [AV.int IntKind.i64 d0.fst, AV.str d0.snd]] []) fun (d1 : List UInt8 × Int × List UInt8) => some (Sum.inl { fr := [(0, AV.str (putB d1.fst d1.snd)), (1, AV.slc x (List.map (mkV true Write_tfs) l)), (5, AV.int IntKind.i64 (IntKind.i64.wrap (i + 1)))], bs := [], df := [] })) (some (Sum.inr (Ex.exit 0, { fr := [(0, AV.str b)], bs := [], df := [] })))
theorem ar_s_w (x : Bool) (l : List Write_T) (b : List UInt8) (i : Int) : ar_s x l b i = ar_s_r x l b i := by kernel_rfl

theorem loops49 : (loopsOf 0 (codeOf Try.prog 49)).map (·.1) = [0] := by kernel_rfl
theorem one49 : OneLoops Try.prog 49 := by unfold OneLoops; rw [loops49]; decide
theorem at49 : At 0 (codeOf Try.prog 49) 0 (.loop (bodyAt Try.prog 49 0)) := at_body one49 (by rw [loops49]; decide)
theorem ar_run (x : Bool) (l : List Write_T) (hl : l.length ≤ 1000) : ∀ (k i : Nat), i + k = l.length → ∀ (b : List UInt8), b.length ≤ 24 → ∀ (m : Nat), k < m →
    Runs' Try.prog cfg PKw8 49 0 m (arHd x l b i) (.exit 0, alEnd (allB b (l.drop i)))
  | 0, i, hi, b, hb, m + 1, hm => by
    refine Runs'.done (lp := LP0) LPok.none at49 ((ar_s_w x l b i).trans ?_)
    unfold ar_s_r
    rw [bK_neg (by simp; omega), List.drop_of_length_le (by omega)]
    rfl
  | k + 1, i, hi, b, hb, m + 1, hm => by
    have hi' : (i : Int).toNat < l.length := by omega
    have e : l.drop i = l[i] :: l.drop (i + 1) := List.drop_eq_getElem_cons (by omega)
    rw [e]
    refine Runs'.step (lp := LP0) LPok.none at49 ((ar_s_w x l b i).trans ?_) (ar_run x l hl k (i + 1) (by omega) (putB b l[i]) (putB_le hb) m (by omega))
    unfold ar_s_r
    rw [bK_pos (by simp; omega)]
    refine (oK_atD rfl (0, []) (by omega) hi').trans ?_
    have hg : l.getD (i : Int).toNat (0, []) = l[i] := by rw [getD_at hi']; simp
    rw [hg]
    have hb' : b.length ≤ 1000 := by omega
    refine oK_fsq (Q := fun z => z = _) putRS (b, l[i]) hb' ?_
    rw [w64 (by omega) (by omega)]
    rfl
def arH (d : AlD) : St := arHd d.1 d.2.1 d.2.2 0
noncomputable def arL : LP := LP.of (D := AlD) arH (fun d => d.2.1.length ≤ 1000 ∧ d.2.2.length ≤ 24) fun d => .leaf (.exit 0, alEnd (allF d.2.2 d.2.1))
noncomputable def LPr : LPs := LPs.add LP0 49 0 arL
theorem LPr_ok : LPok Try.prog cfg PKw8 LPr 49 :=
  LPok.addH LPok.none one49 fun d h => ar_run d.1 d.2.1 h.1 d.2.1.length 0 (by omega) d.2.2 h.2 rounds (by have := h.1; simp only [rounds]; omega)
theorem arH_inj (d d' : AlD) (h : arH d = arH d') : d = d' := by
  obtain ⟨x, l, b⟩ := d
  obtain ⟨x', l', b'⟩ := d'
  simp only [arH, arHd, St.mk.injEq, List.cons.injEq, Prod.mk.injEq, AV.slc.injEq, AV.str.injEq, and_true, true_and] at h
  obtain ⟨h1, h2, h3⟩ := h
  rw [h1, h2, map_inj (fs := Write_tfs) rfl h3]
abbrev allR_id : Nat := 49
abbrev allR_sh : Shp := [none, none]
abbrev allR_fs : List Lf := [.fs, .fl true Write_tfs]
abbrev allR_rsh : Shp := [none]
abbrev allR_rfs : List Lf := [.fs]
noncomputable def allR_r (body : List UInt8) (l_x : Bool) (l : List Write_T) : Option Ret :=
  oK (arL.dec { fr := [(0, AV.str body), (1, AV.slc l_x (List.map (mkV true Write_tfs) l)), (5, AV.int IntKind.i64 0)], bs := [], df := [] }) fun (d0 : Bool × List (Int × List UInt8) × List UInt8) => some { pan := false, res := AV.str (allF d0.snd.snd d0.snd.fst), out := [], new := [] }
theorem allR_w (body : List UInt8) (l_x : Bool) (l : List Write_T) : unitQ Try.prog cfg PKw8 LPr false 49 (groupA allR_sh (Tu.mk allR_fs (body, (l_x, l)))) [] = allR_r body l_x l := by kernel_rfl

noncomputable def allRS : FS := ⟨allR_sh, allR_fs, allR_rsh, allR_rfs, fun d => d.1.length ≤ 24 ∧ d.2.2.length ≤ 1000, fun d => allF d.1 d.2.2, none⟩
theorem allR_v (body : List UInt8) (l_x : Bool) (l : List Write_T) (h : allRS.pre (body, (l_x, l))) : allR_r body l_x l = some (allRS.ret (body, (l_x, l))) := by
  unfold allR_r
  exact oK_lpq (Q := fun z => z = _) arH_inj (l_x, l, body) ⟨h.2, h.1⟩ rfl
theorem allR_ok : ∀ (d : Tu allR_fs), allRS.pre d → unitQ Try.prog cfg PKw8 LPr false 49 (allRS.args d) [] = some (allRS.ret d)
  | (body, (l_x, l)), h => (allR_w body l_x l).trans (allR_v body l_x l h)
noncomputable def PKw9 : PKs := PKw8.add 49 allRS.pk
theorem PKw9_ok : PKsOk Try.prog PKw9 := PKsOk.fs (cfg := cfg) PKw8_ok (fnOk PKw8_ok 21) 49 rfl LPr LPr_ok.loops allRS allR_ok


end Go.Proofs.Ytihgfpggdkhhaaa
