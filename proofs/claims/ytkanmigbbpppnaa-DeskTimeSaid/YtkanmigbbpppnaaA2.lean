/- A part of the proof: contracts of functions. -/
import Derived.Test.YtkanmigbbpppnaaK
import Derived.Test.YtkanmigbbpppnaaAbAny

set_option linter.unusedVariables false
set_option linter.unusedSimpArgs false
set_option maxRecDepth 100000
namespace Go.Proofs.Ytkanmigbbpppnaa
open Go Go.Ab
theorem prby : Try.prog.bytesOf 57 = 32 := by kernel_rfl
theorem prfit {n : Nat} (h : n ≤ 1000000) : bytesFit Try.prog 57 n = true := by
 simp only [bytesFit, prby, decide_eq_true_eq]; omega
def prh0 (x : Bool) (l : List Lease_T) (now : Int) (i : Int) : St := { fr := [(0, .slc x (l.map (mkV true Lease_tfs))), (1, .int .i64 now), (5, .slc true []), (6, .int .i64 i)], bs := [], df := [] }
def prh1 (x : Bool) (l : List Lease_T) (acc : List Lease_T) (now : Int) (i : Int) : St := { fr := [(0, .slc x (l.map (mkV true Lease_tfs))), (1, .int .i64 now), (5, .sref 416 0 0 (acc.map (mkV true Lease_tfs)).length), (6, .int .i64 i)], bs := [(416, { v := 0, k := .row, fz := false, sz := 4, es := acc.map (mkV true Lease_tfs) })], df := [] }
noncomputable def prs0 (x : Bool) (l : List Lease_T) (now : Int) (i : Int) : Option (St ⊕ (Ex × St)) := stepK Try.prog cfg PKz LP0 36 0 (prh0 x l now i)
noncomputable def prs0_r (x : Bool) (l : List Lease_T) (now : Int) (i : Int) : Option (St ⊕ Ex × St) :=
 bK (decide (i < (↑(mW l).length : Int))) (oK (elemAt true Wait_tfs (mW l) i) fun (d0 : Int × Int × Int × Int) => bK (decide (now < d0.2.2.2)) (oK (elemAt true Wait_tfs (mW l) i) fun (d1 : Int × Int × Int × Int) => some (.inl (sf [(0, sl x l), (1, i6 now), (5, .sref 416 0 0 1), (6, i6 (IntKind.i64.wrap (i + 1)))] [(416, { v := 0, k := .row, fz := false, sz := 4, es := [AV.agg [i6 d1.1, i6 d1.2.1, i6 d1.2.2.1, i6 d1.2.2.2]] })]))) (some (.inl (sf [(0, sl x l), (1, i6 now), (5, .slc true []), (6, i6 (IntKind.i64.wrap (i + 1)))] [])))) (some (.inr (.exit 0, (sf [(5, .slc true [])] []))))
theorem prs0_w (x : Bool) (l : List Lease_T) (now : Int) (i : Int) : prs0 x l now i = prs0_r x l now i := by kernel_rfl

noncomputable def prs1 (x : Bool) (l : List Lease_T) (acc : List Lease_T) (now : Int) (i : Int) : Option (St ⊕ (Ex × St)) := stepK Try.prog cfg PKz LP0 36 0 (prh1 x l acc now i)
noncomputable def prs1_r (x : Bool) (l : List Lease_T) (acc : List Lease_T) (now : Int) (i : Int) : Option (St ⊕ Ex × St) :=
 bK (decide (i < (↑(mW l).length : Int))) (oK (elemAt true Wait_tfs (mW l) i) fun (d0 : Int × Int × Int × Int) => bK (decide (now < d0.2.2.2)) (oK (elemAt true Wait_tfs (mW l) i) fun (d1 : Int × Int × Int × Int) => bK (decide (0 + (mW acc).length ≤ (mW acc).length)) (bK (decide (0 = 0 ∧ (mW acc).length = (mW acc).length) && bytesFit Try.prog 57 ((mW acc).length + 1)) (some (.inl (sf [(0, sl x l), (1, i6 now), (5, .sref 416 0 0 ((mW acc).length + 1)), (6, i6 (IntKind.i64.wrap (i + 1)))] [(416, { v := 0, k := .row, fz := false, sz := 4, es := List.take (mW acc).length (mW acc) ++ [AV.agg [i6 d1.1, i6 d1.2.1, i6 d1.2.2.1, i6 d1.2.2.2]] })]))) none) none) (some (.inl (sf [(0, sl x l), (1, i6 now), (5, .sref 416 0 0 (mW acc).length), (6, i6 (IntKind.i64.wrap (i + 1)))] [(416, (rw4 acc))]))))
 (some (.inr (.exit 0, (sf [(5, .sref 416 0 0 (mW acc).length)] [(416, (rw4 acc))]))))
theorem prs1_w (x : Bool) (l : List Lease_T) (acc : List Lease_T) (now : Int) (i : Int) : prs1 x l acc now i = prs1_r x l acc now i := by kernel_rfl

theorem prput (x : Bool) (l : List Lease_T) (acc : List Lease_T) (a : Lease_T) (now : Int) (i : Int) : prh1 x l (acc ++ [a]) now i = { fr := [(0, .slc x (l.map (mkV true Lease_tfs))), (1, .int .i64 now), (5, .sref 416 0 0 ((acc.map (mkV true Lease_tfs)).length + 1)), (6, .int .i64 i)], bs := [(416, { v := 0, k := .row, fz := false, sz := 4, es := List.take (acc.map (mkV true Lease_tfs)).length (acc.map (mkV true Lease_tfs)) ++ [(mkV true Lease_tfs) a] })], df := [] } := by
 unfold prh1
 rw [List.map_append, List.length_append, List.take_length]
 rfl
def prK (l : List Lease_T) (now : Int) (d : Lease_T) : Bool := decide (now < d.2.2.2)
def prg (d : Lease_T) : Lease_T := d
def prE (x : Bool) (l : List Lease_T) (now : Int) (acc : List Lease_T) : St := if acc = [] then { fr := [(5, .slc true [])], bs := [], df := [] } else { fr := [(5, .sref 416 0 0 (acc.map (mkV true Lease_tfs)).length)], bs := [(416, { v := 0, k := .row, fz := false, sz := 4, es := acc.map (mkV true Lease_tfs) })], df := [] }
theorem prlo : (loopsOf 0 (codeOf Try.prog 36)).map (·.1) = [0] := by kernel_rfl
theorem pron : OneLoops Try.prog 36 := by unfold OneLoops; rw [prlo]; decide
theorem prat : At 0 (codeOf Try.prog 36) 0 (.loop (bodyAt Try.prog 36 0)) := at_body pron (by rw [prlo]; decide)
theorem prs0_e (x : Bool) (l : List Lease_T) (now : Int) (i : Nat) (hi : i < l.length) (hl : l.length ≤ 100000) : prs0 x l now i = some (.inl (if prK l now l[i] = true then prh1 x l ([] ++ [prg l[i]]) now ((i + 1 : Nat) : Int) else prh0 x l now ((i + 1 : Nat) : Int))) := by
 refine (prs0_w x l now i).trans ?_
 unfold prs0_r
 refine bK_tq (Q := (· = _)) (by simp; omega) ?_
 have e1 : IntKind.i64.wrap ((i : Int) + 1) = ((i + 1 : Nat) : Int) := by rw [w64 (by omega) (by omega)]; omega
 have e2 : l.getD (i : Int).toNat (0, 0, 0, 0) = l[i] := by rw [Int.toNat_natCast, getD_at hi]
 have at_ : ∀ {Q : Option (St ⊕ (Ex × St)) → Prop} {k : Lease_T → Option (St ⊕ (Ex × St))}, Q (k l[i]) → Q (oK (elemAt true Lease_tfs (l.map (mkV true Lease_tfs)) i) k) := fun hk => oK_atq (fs := Lease_tfs) (0, 0, 0, 0) (by omega) (by simpa using hi) (by rw [e2]; exact hk)
 rw [e1]
 have yes : prK l now l[i] = true → ∀ z : Option (St ⊕ (Ex × St)), z = some (.inl (prh1 x l ([] ++ [prg l[i]]) now ((i + 1 : Nat) : Int))) → z = some (.inl (if prK l now l[i] = true then prh1 x l ([] ++ [prg l[i]]) now ((i + 1 : Nat) : Int) else prh0 x l now ((i + 1 : Nat) : Int))) := fun h z hz => by rw [if_pos h]; exact hz
 have no : prK l now l[i] = false → ∀ z : Option (St ⊕ (Ex × St)), z = some (.inl (prh0 x l now ((i + 1 : Nat) : Int))) → z = some (.inl (if prK l now l[i] = true then prh1 x l ([] ++ [prg l[i]]) now ((i + 1 : Nat) : Int) else prh0 x l now ((i + 1 : Nat) : Int))) := fun h z hz => by rw [if_neg (by rw [h]; simp)]; exact hz
 refine at_ (Q := (· = _)) ?_
 refine bK_iq (Q := (· = _)) (fun c1 => ?_) (fun c1 => no (by simp [prK, c1]) _ rfl)
 refine at_ (Q := (· = _)) ?_
 exact yes (by simp [prK, c1]) _ rfl
theorem prs1_e (x : Bool) (l : List Lease_T) (acc : List Lease_T) (now : Int) (i : Nat) (hi : i < l.length) (hl : l.length ≤ 100000) (ha : acc.length ≤ i) (hne : acc ≠ []) : prs1 x l acc now i = some (.inl (if prK l now l[i] = true then prh1 x l (acc ++ [prg l[i]]) now ((i + 1 : Nat) : Int) else prh1 x l acc now ((i + 1 : Nat) : Int))) := by
 refine (prs1_w x l acc now i).trans ?_
 unfold prs1_r
 refine bK_tq (Q := (· = _)) (by simp; omega) ?_
 have e1 : IntKind.i64.wrap ((i : Int) + 1) = ((i + 1 : Nat) : Int) := by rw [w64 (by omega) (by omega)]; omega
 have e2 : l.getD (i : Int).toNat (0, 0, 0, 0) = l[i] := by rw [Int.toNat_natCast, getD_at hi]
 have at_ : ∀ {Q : Option (St ⊕ (Ex × St)) → Prop} {k : Lease_T → Option (St ⊕ (Ex × St))}, Q (k l[i]) → Q (oK (elemAt true Lease_tfs (l.map (mkV true Lease_tfs)) i) k) := fun hk => oK_atq (fs := Lease_tfs) (0, 0, 0, 0) (by omega) (by simpa using hi) (by rw [e2]; exact hk)
 rw [e1]
 have yes : prK l now l[i] = true → ∀ z : Option (St ⊕ (Ex × St)), z = some (.inl (prh1 x l (acc ++ [prg l[i]]) now ((i + 1 : Nat) : Int))) → z = some (.inl (if prK l now l[i] = true then prh1 x l (acc ++ [prg l[i]]) now ((i + 1 : Nat) : Int) else prh1 x l acc now ((i + 1 : Nat) : Int))) := fun h z hz => by rw [if_pos h]; exact hz
 have no : prK l now l[i] = false → ∀ z : Option (St ⊕ (Ex × St)), z = some (.inl (prh1 x l acc now ((i + 1 : Nat) : Int))) → z = some (.inl (if prK l now l[i] = true then prh1 x l (acc ++ [prg l[i]]) now ((i + 1 : Nat) : Int) else prh1 x l acc now ((i + 1 : Nat) : Int))) := fun h z hz => by rw [if_neg (by rw [h]; simp)]; exact hz
 refine at_ (Q := (· = _)) ?_
 refine bK_iq (Q := (· = _)) (fun c1 => ?_) (fun c1 => no (by simp [prK, c1]) _ rfl)
 refine at_ (Q := (· = _)) ?_
 exact yes (by simp [prK, c1]) _ (by refine bK_tq (Q := (· = _)) (by simp) (bK_tq (Q := (· = _)) (by simp only [decide_true, and_self, Bool.true_and, List.length_map]; exact prfit (by omega)) ?_); rw [prput]; rfl)
theorem prr1 (x : Bool) (l : List Lease_T) (now : Int) (hl : l.length ≤ 100000) : ∀ (k i : Nat), i + k = l.length → ∀ (acc : List Lease_T), acc ≠ [] → acc.length ≤ i → ∀ (fu : Nat), k < fu →
  Runs' Try.prog cfg PKz 36 0 fu (prh1 x l acc now i) (.exit 0, prE x l now (acc ++ ((l.drop i).filter (prK l now)).map prg))
 | 0, i, hi, acc, hne, ha, fu + 1, hm => by
  rw [List.drop_of_length_le (by omega)]
  refine Runs'.done (lp := LP0) LPok.none prat ((prs1_w x l acc now i).trans ?_)
  unfold prs1_r
  rw [bK_neg (by simp; omega)]
  simp only [List.filter_nil, List.map_nil, List.append_nil]
  unfold prE
  rw [if_neg hne]
 | k + 1, i, hi, acc, hne, ha, fu + 1, hm => by
  have hi' : i < l.length := by omega
  have e : l.drop i = l[i] :: l.drop (i + 1) := List.drop_eq_getElem_cons hi'
  have hs := prs1_e x l acc now i hi' hl ha hne
  rw [e, List.filter_cons]
  by_cases hk : prK l now l[i] = true
  ·rw [if_pos hk] at hs ⊢
   have := prr1 x l now hl k (i + 1) (by omega) (acc ++ [prg l[i]]) (by simp) (by simp; omega) fu (by omega)
   rw [List.append_assoc] at this
   exact Runs'.step (lp := LP0) LPok.none prat hs this
  ·rw [if_neg hk] at hs ⊢
   exact Runs'.step (lp := LP0) LPok.none prat hs (prr1 x l now hl k (i + 1) (by omega) acc hne (by omega) fu (by omega))
theorem prr0 (x : Bool) (l : List Lease_T) (now : Int) (hl : l.length ≤ 100000) : ∀ (k i : Nat), i + k = l.length → ∀ (fu : Nat), k < fu →
  Runs' Try.prog cfg PKz 36 0 fu (prh0 x l now i) (.exit 0, prE x l now (((l.drop i).filter (prK l now)).map prg))
 | 0, i, hi, fu + 1, hm => by
  rw [List.drop_of_length_le (by omega)]
  refine Runs'.done (lp := LP0) LPok.none prat ((prs0_w x l now i).trans ?_)
  unfold prs0_r
  rw [bK_neg (by simp; omega)]
  rfl
 | k + 1, i, hi, fu + 1, hm => by
  have hi' : i < l.length := by omega
  have e : l.drop i = l[i] :: l.drop (i + 1) := List.drop_eq_getElem_cons hi'
  have hs := prs0_e x l now i hi' hl
  rw [e, List.filter_cons]
  by_cases hk : prK l now l[i] = true
  ·rw [if_pos hk] at hs ⊢
   exact Runs'.step (lp := LP0) LPok.none prat hs (prr1 x l now hl k (i + 1) (by omega) [prg l[i]] (by simp) (by simp only [List.length_cons, List.length_nil]; omega) fu (by omega))
  ·rw [if_neg hk] at hs ⊢
   exact Runs'.step (lp := LP0) LPok.none prat hs (prr0 x l now hl k (i + 1) (by omega) fu (by omega))
abbrev prC : Type := Int
abbrev prD : Type := (Bool × List Lease_T) × prC
def prF (l : List Lease_T) (now : Int) : List Lease_T := (l.filter (prK l now)).map prg
def prH (d : prD) : St := prh0 d.1.1 d.1.2 d.2 0
theorem prH_inj (d d' : prD) (h : prH d = prH d') : d = d' := by
 obtain ⟨⟨x, l⟩, now⟩ := d
 obtain ⟨⟨x', l'⟩, now'⟩ := d'
 simp only [prH, prh0, St.mk.injEq, List.cons.injEq, Prod.mk.injEq, AV.slc.injEq, AV.int.injEq, and_true, true_and] at h
 have e1 := map_inj (fs := Lease_tfs) rfl h.1.2; rw [h.1.1, e1, h.2]
noncomputable def prL : LP := LP.of prH (fun d => d.1.2.length ≤ 100000) fun d => .ite (prF d.1.2 d.2).isEmpty (.leaf (.exit 0, { fr := [(5, .slc true [])], bs := [], df := [] })) (.leaf (.exit 0, { fr := [(5, .sref 416 0 0 ((prF d.1.2 d.2).map (mkV true Lease_tfs)).length)], bs := [(416, { v := 0, k := .row, fz := false, sz := 4, es := (prF d.1.2 d.2).map (mkV true Lease_tfs) })], df := [] }))
noncomputable def prP : LPs := LPs.add LP0 36 0 prL
theorem prP_ok : LPok Try.prog cfg PKz prP 36 := LPok.addH LPok.none pron (by
 rintro ⟨⟨x, l⟩, now⟩ h
 have h2 : l.length ≤ 100000 := h
 have := prr0 x l now h2 l.length 0 (by omega) rounds (by simp only [rounds]; omega)
 rw [List.drop_zero] at this
 have e : prF l now = (l.filter (prK l now)).map prg := rfl
 rw [← e] at this
 unfold prE at this
 simp only [Alt.val]
 by_cases hq : prF l now = []
 ·rw [if_pos hq] at this
  rw [hq]; exact this
 ·rw [if_neg hq] at this
  have : (prF l now).isEmpty = false := by simpa using hq
  rw [this]; assumption)
abbrev pref_id : Nat := 36
abbrev pref_sh : Shp := [none, none]
abbrev pref_fs : List Lf := [.fl true Lease_tfs, .fi .i64]
abbrev pref_rsh : Shp := [none]
abbrev pref_rfs : List Lf := [.fl true Lease_tfs]
noncomputable def pref_r (l_x : Bool) (l : List Lease_T) (now : Int) : Option Ret :=
 oK (prL.dec (sf [(0, sl l_x l), (1, i6 now), (5, .slc true []), (6, i6 0)] [])) fun (d0 : LW × Int) => bK (prF d0.1.2 d0.2).isEmpty (some (rt (.slc true []))) (bK (decide (0 + (mW (prF d0.1.2 d0.2)).length ≤ (mW (prF d0.1.2 d0.2)).length)) (some (rt (.slc false (List.take (mW (prF d0.1.2 d0.2)).length (List.drop 0 (mW (prF d0.1.2 d0.2))))))) none)
theorem pref_w (l_x : Bool) (l : List Lease_T) (now : Int) : unitQ Try.prog cfg PKz prP false 36 (groupA pref_sh (Tu.mk pref_fs ((l_x, l), now))) [] = pref_r l_x l now := by kernel_rfl

theorem prF_eq (l : List Lease_T) (now : Int) : prF l now = pruneQ l now := by
 show (l.filter (prK l now)).map prg = l.filter _
 rw [show prg = id from rfl, List.map_id]
 refine List.filter_congr fun w _ => ?_
 unfold prK
 by_cases h : now < w.2.2.2
 ·rw [decide_eq_true h, decide_eq_false (by omega)]; rfl
 ·rw [decide_eq_false h, decide_eq_true (by omega)]; rfl
noncomputable def prefS : FS := ⟨pref_sh, pref_fs, pref_rsh, pref_rfs, fun d => d.1.2.length ≤ 100000, fun d => ((pruneQ d.1.2 d.2).isEmpty, pruneQ d.1.2 d.2), none⟩
theorem prefO : ∀ d : Tu prefS.fs, prefS.pre d → CallOk Try.prog 36 (prefS.args d) [] (prefS.ret d) := by
 rintro ⟨⟨x, l⟩, now⟩ h
 have h' : l.length ≤ 100000 := h
 refine CallOk.unit (fnOk PKz_ok 21) rfl prP_ok.loops (o := false) (by show 0 ≤ 1000; decide) ((pref_w x l now).trans ?_)
 show _ = some (prefS.out ((pruneQ l now).isEmpty, pruneQ l now))
 unfold pref_r
 refine oK_lpq (Q := (· = _)) prH_inj ((x, l), now) h' ?_
 dsimp only
 rw [prF_eq]
 generalize pruneQ l now = q
 cases q with
 | nil => rfl
 | cons a r =>
  refine bK_fq (Q := (· = _)) rfl (bK_tq (Q := (· = _)) (by simp) ?_)
  rw [List.drop_zero, List.take_length]
  rfl
def rhh (x : Bool) (l : List Lease_T) (now c f i : Int) : St := { fr := [(0, .slc x (l.map (mkV true Lease_tfs))), (1, .int .i64 now), (2, .int .i64 c), (3, .int .i64 f), (9, .int .i64 i)], bs := [], df := [] }
noncomputable def rh_s (x : Bool) (l : List Lease_T) (now c f i : Int) : Option (St ⊕ (Ex × St)) := stepK Try.prog cfg PKz LP0 22 0 (rhh x l now c f i)
noncomputable def rh_s_r (x : Bool) (l : List Lease_T) (now : Int) (c : Int) (f : Int) (i : Int) : Option (St ⊕ Ex × St) :=
 bK (decide (i < (↑(mW l).length : Int))) (oK (elemAt true Wait_tfs (mW l) i) fun (d0 : Int × Int × Int × Int) => bK (decide (d0.1 = c)) (oK (elemAt true Wait_tfs (mW l) i) fun (d1 : Int × Int × Int × Int) => bK (decide (d1.2.1 = f)) (oK (elemAt true Wait_tfs (mW l) i) fun (d2 : Int × Int × Int × Int) => bK (decide (now < d2.2.2.2)) (oK (elemAt true Wait_tfs (mW l) i) fun (d3 : Int × Int × Int × Int) => some (.inr (.ret, (sf [(8, i6 d3.2.2.1)] [])))) (some (.inl (sf [(0, sl x l), (1, i6 now), (2, i6 c), (3, i6 f), (9, i6 (IntKind.i64.wrap (i + 1)))] [])))) (some (.inl (sf [(0, sl x l), (1, i6 now), (2, i6 c), (3, i6 f), (9, i6 (IntKind.i64.wrap (i + 1)))] [])))) (some (.inl (sf [(0, sl x l), (1, i6 now), (2, i6 c), (3, i6 f), (9, i6 (IntKind.i64.wrap (i + 1)))] [])))) (some (.inr (.exit 0, (sf [] []))))
theorem rh_s_w (x : Bool) (l : List Lease_T) (now : Int) (c : Int) (f : Int) (i : Int) : rh_s x l now c f i = rh_s_r x l now c f i := by kernel_rfl

def rmh (x : Bool) (l : List Lease_T) (i : Int) : St := { fr := [(0, .slc x (l.map (mkV true Lease_tfs))), (3, .int .i64 i)], bs := [], df := [] }
noncomputable def rm_s (x : Bool) (l : List Lease_T) (i : Int) : Option (St ⊕ (Ex × St)) := stepK Try.prog cfg PKz LP0 23 0 (rmh x l i)
noncomputable def rm_s_r (x : Bool) (l : List Lease_T) (i : Int) : Option (St ⊕ Ex × St) :=
 bK (decide (i < (↑(mW l).length : Int)))
 (oK (elemAt true Wait_tfs (mW l) i) fun (d0 : Int × Int × Int × Int) =>
 bK (decide (d0.1 < 1)) (some (.inr (.ret, (sf [(2, .bool false)] []))))
 (bK (decide (3 < d0.1)) (some (.inr (.ret, (sf [(2, .bool false)] []))))
 (bK (decide (d0.2.1 < 1)) (some (.inr (.ret, (sf [(2, .bool false)] []))))
 (bK (decide (6 < d0.2.1)) (some (.inr (.ret, (sf [(2, .bool false)] []))))
 (bK (!decide (d0.2.2.1 = 1)) (bK (!decide (d0.2.2.1 = 2)) (some (.inr (.ret, (sf [(2, .bool false)] [])))) (bK (decide (d0.2.2.2 < 0)) (some (.inr (.ret, (sf [(2, .bool false)] [])))) (bK (decide (0 < i)) (oK (elemAt true Wait_tfs (mW l) (IntKind.i64.wrap (i - 1))) fun (d1 : Int × Int × Int × Int) => bK (decide (d0.2.1 < d1.2.1)) (some (.inr (.ret, (sf [(2, .bool false)] [])))) (oK (elemAt true Wait_tfs (mW l) (IntKind.i64.wrap (i - 1))) fun (d2 : Int × Int × Int × Int) => bK (decide (d2.2.1 = d0.2.1)) (oK (elemAt true Wait_tfs (mW l) (IntKind.i64.wrap (i - 1))) fun (d3 : Int × Int × Int × Int) => bK (decide (d0.1 ≤ d3.1)) (some (.inr (.ret, (sf [(2, .bool false)] [])))) (some (.inl (sf [(0, sl x l), (3, i6 (IntKind.i64.wrap (i + 1)))] [])))) (some (.inl (sf [(0, sl x l), (3, i6 (IntKind.i64.wrap (i + 1)))] []))))) (some (.inl (sf [(0, sl x l), (3, i6 (IntKind.i64.wrap (i + 1)))] []))))))
 (bK (decide (d0.2.2.2 < 0)) (some (.inr (.ret, (sf [(2, .bool false)] [])))) (bK (decide (0 < i)) (oK (elemAt true Wait_tfs (mW l) (IntKind.i64.wrap (i - 1))) fun (d4 : Int × Int × Int × Int) => bK (decide (d0.2.1 < d4.2.1)) (some (.inr (.ret, (sf [(2, .bool false)] [])))) (oK (elemAt true Wait_tfs (mW l) (IntKind.i64.wrap (i - 1))) fun (d5 : Int × Int × Int × Int) => bK (decide (d5.2.1 = d0.2.1)) (oK (elemAt true Wait_tfs (mW l) (IntKind.i64.wrap (i - 1))) fun (d6 : Int × Int × Int × Int) => bK (decide (d0.1 ≤ d6.1)) (some (.inr (.ret, (sf [(2, .bool false)] [])))) (some (.inl (sf [(0, sl x l), (3, i6 (IntKind.i64.wrap (i + 1)))] [])))) (some (.inl (sf [(0, sl x l), (3, i6 (IntKind.i64.wrap (i + 1)))] []))))) (some (.inl (sf [(0, sl x l), (3, i6 (IntKind.i64.wrap (i + 1)))] []))))))))))
 (some (.inr (.exit 0, (sf [] []))))
theorem rm_s_w (x : Bool) (l : List Lease_T) (i : Int) : rm_s x l i = rm_s_r x l i := by kernel_rfl

theorem el_at {l : List Lease_T} {i : Nat} (h : i < l.length) : elemAt true Lease_tfs (l.map (mkV true Lease_tfs)) (i : Int) = some l[i] := by
 rw [elemAt_map rfl, if_pos (by omega), Int.toNat_natCast, List.getElem?_eq_getElem h]
theorem mayB_iff {l : List Lease_T} {i : Nat} (h : i < l.length) : mayB l i = true ↔ ((1 ≤ l[i].1 ∧ l[i].1 ≤ 3) ∧ (1 ≤ l[i].2.1 ∧ l[i].2.1 ≤ 6) ∧ (1 ≤ l[i].2.2.1 ∧ l[i].2.2.1 ≤ 2) ∧ 0 ≤ l[i].2.2.2) ∧ (i = 0 ∨ LT l[i - 1] l[i]) := by
 unfold mayB
 rw [Bool.and_eq_true, Bool.or_eq_true, decide_eq_true_eq, decide_eq_true_eq, getD_at h, getD_at (show i - 1 < l.length by omega), okE_iff, ord_lt]
theorem rm_e (x : Bool) (l : List Lease_T) (i : Nat) (hi : i < l.length) (hl : l.length ≤ 100000) : rm_s x l i = if mayB l i = true then some (.inl (rmh x l ((i + 1 : Nat) : Int))) else some (.inr (mayX false)) := by
 refine (rm_s_w x l i).trans ?_
 unfold rm_s_r
 have e1 : IntKind.i64.wrap ((i : Int) + 1) = ((i + 1 : Nat) : Int) := by rw [w64 (by omega) (by omega)]; omega
 have hm := mayB_iff hi
 rw [bK_pos (by simp; omega), e1, el_at hi]
 simp only [oK_some]
 by_cases h0 : i = 0
 ·subst h0
  generalize l[0] = w at hm
  unfold LT at hm
  by_cases hb : mayB l 0 = true
  ·rw [if_pos hb]
   have hm := hm.1 hb
   repeat' (first | refine bK_iq (Q := (· = _)) (fun _ => ?_) (fun _ => ?_) | refine bK_nq (Q := (· = _)) (fun _ => ?_) (fun _ => ?_))
   all_goals first | rfl | (exfalso; omega)
  ·rw [if_neg hb]
   have hm : ¬ _ := fun h => hb (hm.2 h)
   repeat' (first | refine bK_iq (Q := (· = _)) (fun _ => ?_) (fun _ => ?_) | refine bK_nq (Q := (· = _)) (fun _ => ?_) (fun _ => ?_))
   all_goals first | rfl | (exfalso; omega)
 ·have e3 : IntKind.i64.wrap ((i : Int) - 1) = ((i - 1 : Nat) : Int) := by rw [w64 (by omega) (by omega)]; omega
  rw [e3, el_at (show i - 1 < l.length by omega)]
  simp only [oK_some]
  generalize l[i] = w at hm
  generalize l[i - 1] = v at hm
  unfold LT at hm
  by_cases hb : mayB l i = true
  ·rw [if_pos hb]
   have hm := hm.1 hb
   repeat' (first | refine bK_iq (Q := (· = _)) (fun _ => ?_) (fun _ => ?_) | refine bK_nq (Q := (· = _)) (fun _ => ?_) (fun _ => ?_))
   all_goals first | rfl | (exfalso; omega)
  ·rw [if_neg hb]
   have hm : ¬ _ := fun h => hb (hm.2 h)
   repeat' (first | refine bK_iq (Q := (· = _)) (fun _ => ?_) (fun _ => ?_) | refine bK_nq (Q := (· = _)) (fun _ => ?_) (fun _ => ?_))
   all_goals first | rfl | (exfalso; omega)
theorem rml : (loopsOf 0 (codeOf Try.prog 23)).map (·.1) = [0] := by kernel_rfl
theorem rmo : OneLoops Try.prog 23 := by unfold OneLoops; rw [rml]; decide
theorem rma : At 0 (codeOf Try.prog 23) 0 (.loop (bodyAt Try.prog 23 0)) := at_body rmo (by rw [rml]; decide)
theorem rm_run (x : Bool) (l : List Lease_T) (hl : l.length ≤ 100000) : ∀ (k i : Nat), i + k = l.length → ∀ (fu : Nat), k < fu → Runs' Try.prog cfg PKz 23 0 fu (rmh x l i) (mayX (mayN l k i))
 | 0, i, hi, fu + 1, hf => by
  refine Runs'.done (lp := LP0) LPok.none rma ((rm_s_w x l i).trans ?_)
  unfold rm_s_r
  rw [bK_neg (by simp; omega)]
  rfl
 | k + 1, i, hi, fu + 1, hf => by
  have hs := rm_e x l i (by omega) hl
  unfold mayN
  cases hq : mayB l i with
  | true =>
   rw [hq, if_pos rfl] at hs
   exact Runs'.step (lp := LP0) LPok.none rma hs (rm_run x l hl k (i + 1) (by omega) fu (by omega))
  | false =>
   rw [hq, if_neg (by simp)] at hs
   exact Runs'.done (lp := LP0) LPok.none rma hs
def rmHd (d : Bool × List Lease_T) : St := rmh d.1 d.2 0
theorem rmHd_inj (d d' : Bool × List Lease_T) (h : rmHd d = rmHd d') : d = d' := by
 obtain ⟨x, l⟩ := d
 obtain ⟨x', l'⟩ := d'
 simp only [rmHd, rmh, St.mk.injEq, List.cons.injEq, Prod.mk.injEq, AV.slc.injEq, and_true, true_and] at h
 rw [h.1, map_inj (fs := Lease_tfs) rfl h.2]
noncomputable def rmL : LP := LP.of rmHd (fun d => d.2.length ≤ 100000) fun d => .ite (mayQ d.2) (.leaf (.exit 0, { fr := [], bs := [], df := [] })) (.leaf (.ret, { fr := [(2, .bool false)], bs := [], df := [] }))
noncomputable def rmP : LPs := LPs.add LP0 23 0 rmL
theorem rmP_ok : LPok Try.prog cfg PKz rmP 23 := LPok.addH LPok.none rmo (by
 rintro ⟨x, l⟩ h
 have h2 : l.length ≤ 100000 := h
 have := rm_run x l h2 l.length 0 (by omega) rounds (by simp only [rounds]; omega)
 exact this)
abbrev mref_id : Nat := 23
abbrev mref_sh : Shp := [none]
abbrev mref_fs : List Lf := [.fl true Lease_tfs]
abbrev mref_rsh : Shp := [none]
abbrev mref_rfs : List Lf := [.fb]
noncomputable def mref_r (l_x : Bool) (l : List Lease_T) : Option Ret :=
 oK (rmL.dec (sf [(0, sl l_x l), (3, i6 0)] [])) fun (d0 : Bool × List Wait_T) => bK (mayQ d0.2) (some (rt (.bool true))) (some (rt (.bool false)))
theorem mref_w (l_x : Bool) (l : List Lease_T) : unitQ Try.prog cfg PKz rmP false 23 (groupA mref_sh (Tu.mk mref_fs (l_x, l))) [] = mref_r l_x l := by kernel_rfl

noncomputable def mrefS : FS := ⟨mref_sh, mref_fs, mref_rsh, mref_rfs, fun d => d.2.length ≤ 100000, fun d => mayQ d.2, none⟩
theorem mrefO : ∀ d : Tu mrefS.fs, mrefS.pre d → CallOk Try.prog 23 (mrefS.args d) [] (mrefS.ret d) := by
 rintro ⟨x, l⟩ h
 refine CallOk.unit (fnOk PKz_ok 21) rfl rmP_ok.loops (o := false) (by show 0 ≤ 1000; decide) ((mref_w x l).trans ?_)
 unfold mref_r
 refine oK_lpq (Q := (· = _)) rmHd_inj (x, l) h ?_
 show bK (mayQ l) _ _ = some (mrefS.out (mayQ l))
 cases mayQ l <;> rfl
def rhN (now c f : Int) : List Lease_T → Option Int
 | [] => none
 | w :: r => if w.1 = c ∧ w.2.1 = f ∧ now < w.2.2.2 then some w.2.2.1 else rhN now c f r
def rhX : Option Int → Ex × St
 | none => (.exit 0, { fr := [], bs := [], df := [] })
 | some m => (.ret, { fr := [(8, .int .i64 m)], bs := [], df := [] })
theorem rhl : (loopsOf 0 (codeOf Try.prog 22)).map (·.1) = [0] := by kernel_rfl
theorem rho : OneLoops Try.prog 22 := by unfold OneLoops; rw [rhl]; decide
theorem rha : At 0 (codeOf Try.prog 22) 0 (.loop (bodyAt Try.prog 22 0)) := at_body rho (by rw [rhl]; decide)
theorem rh_run (x : Bool) (l : List Lease_T) (now c f : Int) (hl : l.length ≤ 100000) : ∀ (k i : Nat), i + k = l.length → ∀ (fu : Nat), k < fu → Runs' Try.prog cfg PKz 22 0 fu (rhh x l now c f i) (rhX (rhN now c f (l.drop i)))
 | 0, i, hi, fu + 1, hf => by
  rw [List.drop_of_length_le (by omega)]
  refine Runs'.done (lp := LP0) LPok.none rha ((rh_s_w x l now c f i).trans ?_)
  unfold rh_s_r
  rw [bK_neg (by simp; omega)]
  rfl
 | k + 1, i, hi, fu + 1, hf => by
  have hi' : i < l.length := by omega
  have e : l.drop i = l[i] :: l.drop (i + 1) := List.drop_eq_getElem_cons hi'
  have e1 : IntKind.i64.wrap ((i : Int) + 1) = ((i + 1 : Nat) : Int) := by rw [w64 (by omega) (by omega)]; omega
  have hs : rh_s x l now c f i = if l[i].1 = c ∧ l[i].2.1 = f ∧ now < l[i].2.2.2 then some (.inr (rhX (some l[i].2.2.1))) else some (.inl (rhh x l now c f ((i + 1 : Nat) : Int))) := by
   refine (rh_s_w x l now c f i).trans ?_
   unfold rh_s_r
   rw [bK_pos (by simp; omega), e1, el_at hi']
   simp only [oK_some]
   refine bK_iq (Q := (· = _)) (fun c1 => ?_) (fun c1 => ?_)
   ·refine bK_iq (Q := (· = _)) (fun c2 => ?_) (fun c2 => ?_)
    ·refine bK_iq (Q := (· = _)) (fun c3 => ?_) (fun c3 => ?_)
     ·rw [if_pos ⟨c1, c2, c3⟩]; rfl
     ·rw [if_neg (fun h => c3 h.2.2)]; rfl
    ·rw [if_neg (fun h => c2 h.2.1)]; rfl
   ·rw [if_neg (fun h => c1 h.1)]; rfl
  rw [e]
  unfold rhN
  by_cases h : l[i].1 = c ∧ l[i].2.1 = f ∧ now < l[i].2.2.2
  ·rw [if_pos h] at hs ⊢
   exact Runs'.done (lp := LP0) LPok.none rha hs
  ·rw [if_neg h] at hs ⊢
   exact Runs'.step (lp := LP0) LPok.none rha hs (rh_run x l now c f hl k (i + 1) (by omega) fu (by omega))
abbrev RhD : Type := (Bool × List Lease_T) × Int × Int × Int
def rhHd (d : RhD) : St := rhh d.1.1 d.1.2 d.2.1 d.2.2.1 d.2.2.2 0
theorem rhHd_inj (d d' : RhD) (h : rhHd d = rhHd d') : d = d' := by
 obtain ⟨⟨x, l⟩, now, c, f⟩ := d
 obtain ⟨⟨x', l'⟩, now', c', f'⟩ := d'
 simp only [rhHd, rhh, St.mk.injEq, List.cons.injEq, Prod.mk.injEq, AV.slc.injEq, AV.int.injEq, and_true, true_and] at h
 rw [h.1.1, map_inj (fs := Lease_tfs) rfl h.1.2, h.2.1, h.2.2.1, h.2.2.2]
def rhB (l : List Lease_T) (now c f : Int) : Bool := (rhN now c f l).isSome
def rhQ (l : List Lease_T) (now c f : Int) : Int := (rhN now c f l).getD 0
noncomputable def rhL : LP := LP.of rhHd (fun d => d.1.2.length ≤ 100000) fun d => .ite (rhB d.1.2 d.2.1 d.2.2.1 d.2.2.2) (.leaf (.ret, { fr := [(8, .int .i64 (rhQ d.1.2 d.2.1 d.2.2.1 d.2.2.2))], bs := [], df := [] })) (.leaf (.exit 0, { fr := [], bs := [], df := [] }))
noncomputable def rhP : LPs := LPs.add LP0 22 0 rhL
theorem rhP_ok : LPok Try.prog cfg PKz rhP 22 := LPok.addH LPok.none rho (by
 rintro ⟨⟨x, l⟩, now, c, f⟩ h
 have h2 : l.length ≤ 100000 := h
 have := rh_run x l now c f h2 l.length 0 (by omega) rounds (by simp only [rounds]; omega)
 rw [List.drop_zero] at this
 have e1 : rhB l now c f = (rhN now c f l).isSome := rfl
 have e2 : rhQ l now c f = (rhN now c f l).getD 0 := rfl
 simp only [e1, e2]
 cases hq : rhN now c f l with
 | none => rw [hq] at this; exact this
 | some m => rw [hq] at this; exact this)
abbrev hrefu_id : Nat := 22
abbrev hrefu_sh : Shp := [none, none, none, none]
abbrev hrefu_fs : List Lf := [.fl true Lease_tfs, .fi .i64, .fi .i64, .fi .i64]
abbrev hrefu_rsh : Shp := [none]
abbrev hrefu_rfs : List Lf := [.fi .i64]
noncomputable def hrefu_r (l_x : Bool) (l : List Lease_T) (now : Int) (client : Int) (file : Int) : Option Ret :=
 oK (rhL.dec (sf [(0, sl l_x l), (1, i6 now), (2, i6 client), (3, i6 file), (9, i6 0)] [])) fun (d0 : LW × Int × Int × Int) => bK (rhB d0.1.2 d0.2.1 d0.2.2.1 d0.2.2.2) (some (rt (i6 (rhQ d0.1.2 d0.2.1 d0.2.2.1 d0.2.2.2)))) (some (rt (i6 0)))
theorem hrefu_w (l_x : Bool) (l : List Lease_T) (now : Int) (client : Int) (file : Int) : unitQ Try.prog cfg PKz rhP false 22 (groupA hrefu_sh (Tu.mk hrefu_fs ((l_x, l), now, client, file))) [] = hrefu_r l_x l now client file := by kernel_rfl

noncomputable def hrefS : FS := ⟨hrefu_sh, hrefu_fs, hrefu_rsh, hrefu_rfs, fun d => d.1.2.length ≤ 100000, fun d => rhQ d.1.2 d.2.1 d.2.2.1 d.2.2.2, none⟩
theorem hrefO : ∀ d : Tu hrefS.fs, hrefS.pre d → CallOk Try.prog 22 (hrefS.args d) [] (hrefS.ret d) := by
 rintro ⟨⟨x, l⟩, now, c, f⟩ h
 refine CallOk.unit (fnOk PKz_ok 21) rfl rhP_ok.loops (o := false) (by show 0 ≤ 1000; decide) ((hrefu_w x l now c f).trans ?_)
 unfold hrefu_r
 refine oK_lpq (Q := (· = _)) rhHd_inj ((x, l), now, c, f) h ?_
 show bK ((rhN now c f l).isSome) _ _ = some (hrefS.out (rhQ l now c f))
 have e2 : rhQ l now c f = (rhN now c f l).getD 0 := rfl
 dsimp only
 rw [e2]
 cases hq : rhN now c f l <;> rfl
theorem rhN_none {now c f : Int} : ∀ {l : List Lease_T}, (∀ w ∈ l, ¬ keyE w c f) → rhN now c f l = none
 | [], _ => rfl
 | w :: r, h => by
  unfold rhN
  rw [if_neg (fun e => h w List.mem_cons_self ⟨e.1, e.2.1⟩)]
  exact rhN_none fun v hv => h v (List.mem_cons_of_mem _ hv)
theorem rh_eq {l : List Lease_T} (h : Srt l) (now c f : Int) : rhQ l now c f = holdQ l now c f := by
 show (rhN now c f l).getD 0 = _
 have key : ∀ l : List Lease_T, Srt l → ∀ w ∈ l, keyE w c f → (rhN now c f l).getD 0 = valF now w := by
  intro l
  induction l with
  | nil => intro _ w hw; cases hw
  | cons a r ih =>
   intro hs w hw hk
   obtain ⟨h1, h2⟩ := List.pairwise_cons.1 hs
   unfold rhN
   rcases List.mem_cons.1 hw with rfl | hw
   ·by_cases hu : now < w.2.2.2
    ·rw [if_pos ⟨hk.1, hk.2, hu⟩]
     unfold valF
     rw [if_neg (by omega)]; rfl
    ·rw [if_neg (fun e => hu e.2.2), rhN_none]
     ·unfold valF; rw [if_pos (by omega)]; rfl
     ·intro v hv hkv
      have q := h1 v hv
      unfold LT at q; unfold keyE at hk hkv
      omega
   ·rw [if_neg]
    ·exact ih h2 w hw hk
    ·intro e
     have q := h1 w hw
     unfold LT at q; unfold keyE at hk
     omega
 by_cases hx : ∃ w ∈ l, keyE w c f
 ·obtain ⟨w, hw, hk⟩ := hx
  rw [key l h w hw hk, (hold_mem h hw hk now).2.2]
 ·have hn : ∀ w ∈ l, ¬ keyE w c f := fun w hw hk => hx ⟨w, hw, hk⟩
  rw [rhN_none hn, (hold_none hn now).2]; rfl

end Go.Proofs.Ytkanmigbbpppnaa
