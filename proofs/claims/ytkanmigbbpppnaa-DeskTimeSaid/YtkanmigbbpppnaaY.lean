/- A part of the proof: contracts of functions. -/
import Derived.Test.YtkanmigbbpppnaaX
import Derived.Test.YtkanmigbbpppnaaAbAny

set_option linter.unusedVariables false
set_option linter.unusedSimpArgs false
set_option maxRecDepth 100000
namespace Go.Proofs.Ytkanmigbbpppnaa
open Go Go.Ab
theorem drby : Try.prog.bytesOf 57 = 32 := by kernel_rfl
theorem drfit {n : Nat} (h : n ≤ 1000000) : bytesFit Try.prog 57 n = true := by
 simp only [bytesFit, drby, decide_eq_true_eq]; omega
def drh0 (x : Bool) (l : List Lease_T) (c f : Int) (i : Int) : St := { fr := [(0, .slc x (l.map (mkV true Lease_tfs))), (1, .int .i64 c), (2, .int .i64 f), (7, .slc true []), (8, .int .i64 i)], bs := [], df := [] }
def drh1 (x : Bool) (l : List Lease_T) (acc : List Lease_T) (c f : Int) (i : Int) : St := { fr := [(0, .slc x (l.map (mkV true Lease_tfs))), (1, .int .i64 c), (2, .int .i64 f), (7, .sref 592 0 0 (acc.map (mkV true Lease_tfs)).length), (8, .int .i64 i)], bs := [(592, { v := 0, k := .row, fz := false, sz := 4, es := acc.map (mkV true Lease_tfs) })], df := [] }
noncomputable def drs0 (x : Bool) (l : List Lease_T) (c f : Int) (i : Int) : Option (St ⊕ (Ex × St)) := stepK Try.prog cfg PKz LP0 28 0 (drh0 x l c f i)
noncomputable def drs0_r (x : Bool) (l : List Lease_T) (c : Int) (f : Int) (i : Int) : Option (St ⊕ Ex × St) :=
 bK (decide (i < (↑(mW l).length : Int)))
 (oK (elemAt true Wait_tfs (mW l) i) fun (d0 : Int × Int × Int × Int) =>
 bK (!decide (d0.1 = c)) (oK (elemAt true Wait_tfs (mW l) i) fun (d1 : Int × Int × Int × Int) => some (.inl (sf [(0, sl x l), (1, i6 c), (2, i6 f), (7, .sref 592 0 0 1), (8, i6 (IntKind.i64.wrap (i + 1)))] [(592, { v := 0, k := .row, fz := false, sz := 4, es := [AV.agg [i6 d1.1, i6 d1.2.1, i6 d1.2.2.1, i6 d1.2.2.2]] })]))) (oK (elemAt true Wait_tfs (mW l) i) fun (d2 : Int × Int × Int × Int) => bK (!decide (d2.2.1 = f)) (oK (elemAt true Wait_tfs (mW l) i) fun (d3 : Int × Int × Int × Int) => some (.inl (sf [(0, sl x l), (1, i6 c), (2, i6 f), (7, .sref 592 0 0 1), (8, i6 (IntKind.i64.wrap (i + 1)))] [(592, { v := 0, k := .row, fz := false, sz := 4, es := [AV.agg [i6 d3.1, i6 d3.2.1, i6 d3.2.2.1, i6 d3.2.2.2]] })]))) (some (.inl (sf [(0, sl x l), (1, i6 c), (2, i6 f), (7, .slc true []), (8, i6 (IntKind.i64.wrap (i + 1)))] [])))))
 (some (.inr (.exit 0, (sf [(7, .slc true [])] []))))
theorem drs0_w (x : Bool) (l : List Lease_T) (c : Int) (f : Int) (i : Int) : drs0 x l c f i = drs0_r x l c f i := by kernel_rfl

noncomputable def drs1 (x : Bool) (l : List Lease_T) (acc : List Lease_T) (c f : Int) (i : Int) : Option (St ⊕ (Ex × St)) := stepK Try.prog cfg PKz LP0 28 0 (drh1 x l acc c f i)
noncomputable def drs1_r (x : Bool) (l : List Lease_T) (acc : List Lease_T) (c : Int) (f : Int) (i : Int) : Option (St ⊕ Ex × St) :=
 bK (decide (i < (↑(mW l).length : Int)))
 (oK (elemAt true Wait_tfs (mW l) i) fun (d0 : Int × Int × Int × Int) =>
 bK (!decide (d0.1 = c)) (oK (elemAt true Wait_tfs (mW l) i) fun (d1 : Int × Int × Int × Int) => bK (decide (0 + (mW acc).length ≤ (mW acc).length)) (bK (decide (0 = 0 ∧ (mW acc).length = (mW acc).length) && bytesFit Try.prog 57 ((mW acc).length + 1)) (some (.inl (sf [(0, sl x l), (1, i6 c), (2, i6 f), (7, .sref 592 0 0 ((mW acc).length + 1)), (8, i6 (IntKind.i64.wrap (i + 1)))] [(592, { v := 0, k := .row, fz := false, sz := 4, es := List.take (mW acc).length (mW acc) ++ [AV.agg [i6 d1.1, i6 d1.2.1, i6 d1.2.2.1, i6 d1.2.2.2]] })]))) none) none)
 (oK (elemAt true Wait_tfs (mW l) i) fun (d2 : Int × Int × Int × Int) => bK (!decide (d2.2.1 = f)) (oK (elemAt true Wait_tfs (mW l) i) fun (d3 : Int × Int × Int × Int) => bK (decide (0 + (mW acc).length ≤ (mW acc).length)) (bK (decide (0 = 0 ∧ (mW acc).length = (mW acc).length) && bytesFit Try.prog 57 ((mW acc).length + 1)) (some (.inl (sf [(0, sl x l), (1, i6 c), (2, i6 f), (7, .sref 592 0 0 ((mW acc).length + 1)), (8, i6 (IntKind.i64.wrap (i + 1)))] [(592, { v := 0, k := .row, fz := false, sz := 4, es := List.take (mW acc).length (mW acc) ++ [AV.agg [i6 d3.1, i6 d3.2.1, i6 d3.2.2.1, i6 d3.2.2.2]] })]))) none) none) (some (.inl (sf [(0, sl x l), (1, i6 c), (2, i6 f), (7, .sref 592 0 0 (mW acc).length), (8, i6 (IntKind.i64.wrap (i + 1)))] [(592, (rw4 acc))])))))
 (some (.inr (.exit 0, (sf [(7, .sref 592 0 0 (mW acc).length)] [(592, (rw4 acc))]))))
theorem drs1_w (x : Bool) (l : List Lease_T) (acc : List Lease_T) (c : Int) (f : Int) (i : Int) : drs1 x l acc c f i = drs1_r x l acc c f i := by kernel_rfl

theorem drput (x : Bool) (l : List Lease_T) (acc : List Lease_T) (a : Lease_T) (c f : Int) (i : Int) : drh1 x l (acc ++ [a]) c f i = { fr := [(0, .slc x (l.map (mkV true Lease_tfs))), (1, .int .i64 c), (2, .int .i64 f), (7, .sref 592 0 0 ((acc.map (mkV true Lease_tfs)).length + 1)), (8, .int .i64 i)], bs := [(592, { v := 0, k := .row, fz := false, sz := 4, es := List.take (acc.map (mkV true Lease_tfs)).length (acc.map (mkV true Lease_tfs)) ++ [(mkV true Lease_tfs) a] })], df := [] } := by
 unfold drh1
 rw [List.map_append, List.length_append, List.take_length]
 rfl
def drK (l : List Lease_T) (c f : Int) (d : Lease_T) : Bool := !(decide (d.1 = c) && decide (d.2.1 = f))
def drg (d : Lease_T) : Lease_T := d
def drE (x : Bool) (l : List Lease_T) (c f : Int) (acc : List Lease_T) : St := if acc = [] then { fr := [(7, .slc true [])], bs := [], df := [] } else { fr := [(7, .sref 592 0 0 (acc.map (mkV true Lease_tfs)).length)], bs := [(592, { v := 0, k := .row, fz := false, sz := 4, es := acc.map (mkV true Lease_tfs) })], df := [] }
theorem drlo : (loopsOf 0 (codeOf Try.prog 28)).map (·.1) = [0] := by kernel_rfl
theorem dron : OneLoops Try.prog 28 := by unfold OneLoops; rw [drlo]; decide
theorem drat : At 0 (codeOf Try.prog 28) 0 (.loop (bodyAt Try.prog 28 0)) := at_body dron (by rw [drlo]; decide)
theorem drs0_e (x : Bool) (l : List Lease_T) (c f : Int) (i : Nat) (hi : i < l.length) (hl : l.length ≤ 100000) : drs0 x l c f i = some (.inl (if drK l c f l[i] = true then drh1 x l ([] ++ [drg l[i]]) c f ((i + 1 : Nat) : Int) else drh0 x l c f ((i + 1 : Nat) : Int))) := by
 refine (drs0_w x l c f i).trans ?_
 unfold drs0_r
 refine bK_tq (Q := (· = _)) (by simp; omega) ?_
 have e1 : IntKind.i64.wrap ((i : Int) + 1) = ((i + 1 : Nat) : Int) := by rw [w64 (by omega) (by omega)]; omega
 have e2 : l.getD (i : Int).toNat (0, 0, 0, 0) = l[i] := by rw [Int.toNat_natCast, getD_at hi]
 have at_ : ∀ {Q : Option (St ⊕ (Ex × St)) → Prop} {k : Lease_T → Option (St ⊕ (Ex × St))}, Q (k l[i]) → Q (oK (elemAt true Lease_tfs (l.map (mkV true Lease_tfs)) i) k) := fun hk => oK_atq (fs := Lease_tfs) (0, 0, 0, 0) (by omega) (by simpa using hi) (by rw [e2]; exact hk)
 rw [e1]
 have yes : drK l c f l[i] = true → ∀ z : Option (St ⊕ (Ex × St)), z = some (.inl (drh1 x l ([] ++ [drg l[i]]) c f ((i + 1 : Nat) : Int))) → z = some (.inl (if drK l c f l[i] = true then drh1 x l ([] ++ [drg l[i]]) c f ((i + 1 : Nat) : Int) else drh0 x l c f ((i + 1 : Nat) : Int))) := fun h z hz => by rw [if_pos h]; exact hz
 have no : drK l c f l[i] = false → ∀ z : Option (St ⊕ (Ex × St)), z = some (.inl (drh0 x l c f ((i + 1 : Nat) : Int))) → z = some (.inl (if drK l c f l[i] = true then drh1 x l ([] ++ [drg l[i]]) c f ((i + 1 : Nat) : Int) else drh0 x l c f ((i + 1 : Nat) : Int))) := fun h z hz => by rw [if_neg (by rw [h]; simp)]; exact hz
 refine at_ (Q := (· = _)) ?_
 refine bK_nq (Q := (· = _)) (fun c1 => ?_) (fun c1 => ?_)
 ·refine at_ (Q := (· = _)) ?_
  exact yes (by simp [drK, c1]) _ rfl
 ·refine at_ (Q := (· = _)) ?_
  refine bK_nq (Q := (· = _)) (fun c2 => ?_) (fun c2 => no (by simp [drK, c1, c2]) _ rfl)
  refine at_ (Q := (· = _)) ?_
  exact yes (by simp [drK, c2]) _ rfl
theorem drs1_e (x : Bool) (l : List Lease_T) (acc : List Lease_T) (c f : Int) (i : Nat) (hi : i < l.length) (hl : l.length ≤ 100000) (ha : acc.length ≤ i) (hne : acc ≠ []) : drs1 x l acc c f i = some (.inl (if drK l c f l[i] = true then drh1 x l (acc ++ [drg l[i]]) c f ((i + 1 : Nat) : Int) else drh1 x l acc c f ((i + 1 : Nat) : Int))) := by
 refine (drs1_w x l acc c f i).trans ?_
 unfold drs1_r
 refine bK_tq (Q := (· = _)) (by simp; omega) ?_
 have e1 : IntKind.i64.wrap ((i : Int) + 1) = ((i + 1 : Nat) : Int) := by rw [w64 (by omega) (by omega)]; omega
 have e2 : l.getD (i : Int).toNat (0, 0, 0, 0) = l[i] := by rw [Int.toNat_natCast, getD_at hi]
 have at_ : ∀ {Q : Option (St ⊕ (Ex × St)) → Prop} {k : Lease_T → Option (St ⊕ (Ex × St))}, Q (k l[i]) → Q (oK (elemAt true Lease_tfs (l.map (mkV true Lease_tfs)) i) k) := fun hk => oK_atq (fs := Lease_tfs) (0, 0, 0, 0) (by omega) (by simpa using hi) (by rw [e2]; exact hk)
 rw [e1]
 have yes : drK l c f l[i] = true → ∀ z : Option (St ⊕ (Ex × St)), z = some (.inl (drh1 x l (acc ++ [drg l[i]]) c f ((i + 1 : Nat) : Int))) → z = some (.inl (if drK l c f l[i] = true then drh1 x l (acc ++ [drg l[i]]) c f ((i + 1 : Nat) : Int) else drh1 x l acc c f ((i + 1 : Nat) : Int))) := fun h z hz => by rw [if_pos h]; exact hz
 have no : drK l c f l[i] = false → ∀ z : Option (St ⊕ (Ex × St)), z = some (.inl (drh1 x l acc c f ((i + 1 : Nat) : Int))) → z = some (.inl (if drK l c f l[i] = true then drh1 x l (acc ++ [drg l[i]]) c f ((i + 1 : Nat) : Int) else drh1 x l acc c f ((i + 1 : Nat) : Int))) := fun h z hz => by rw [if_neg (by rw [h]; simp)]; exact hz
 refine at_ (Q := (· = _)) ?_
 refine bK_nq (Q := (· = _)) (fun c1 => ?_) (fun c1 => ?_)
 ·refine at_ (Q := (· = _)) ?_
  exact yes (by simp [drK, c1]) _ (by refine bK_tq (Q := (· = _)) (by simp) (bK_tq (Q := (· = _)) (by simp only [decide_true, and_self, Bool.true_and, List.length_map]; exact drfit (by omega)) ?_); rw [drput]; rfl)
 ·refine at_ (Q := (· = _)) ?_
  refine bK_nq (Q := (· = _)) (fun c2 => ?_) (fun c2 => no (by simp [drK, c1, c2]) _ rfl)
  refine at_ (Q := (· = _)) ?_
  exact yes (by simp [drK, c2]) _ (by refine bK_tq (Q := (· = _)) (by simp) (bK_tq (Q := (· = _)) (by simp only [decide_true, and_self, Bool.true_and, List.length_map]; exact drfit (by omega)) ?_); rw [drput]; rfl)
theorem drr1 (x : Bool) (l : List Lease_T) (c f : Int) (hl : l.length ≤ 100000) : ∀ (k i : Nat), i + k = l.length → ∀ (acc : List Lease_T), acc ≠ [] → acc.length ≤ i → ∀ (fu : Nat), k < fu →
  Runs' Try.prog cfg PKz 28 0 fu (drh1 x l acc c f i) (.exit 0, drE x l c f (acc ++ ((l.drop i).filter (drK l c f)).map drg))
 | 0, i, hi, acc, hne, ha, fu + 1, hm => by
  rw [List.drop_of_length_le (by omega)]
  refine Runs'.done (lp := LP0) LPok.none drat ((drs1_w x l acc c f i).trans ?_)
  unfold drs1_r
  rw [bK_neg (by simp; omega)]
  simp only [List.filter_nil, List.map_nil, List.append_nil]
  unfold drE
  rw [if_neg hne]
 | k + 1, i, hi, acc, hne, ha, fu + 1, hm => by
  have hi' : i < l.length := by omega
  have e : l.drop i = l[i] :: l.drop (i + 1) := List.drop_eq_getElem_cons hi'
  have hs := drs1_e x l acc c f i hi' hl ha hne
  rw [e, List.filter_cons]
  by_cases hk : drK l c f l[i] = true
  ·rw [if_pos hk] at hs ⊢
   have := drr1 x l c f hl k (i + 1) (by omega) (acc ++ [drg l[i]]) (by simp) (by simp; omega) fu (by omega)
   rw [List.append_assoc] at this
   exact Runs'.step (lp := LP0) LPok.none drat hs this
  ·rw [if_neg hk] at hs ⊢
   exact Runs'.step (lp := LP0) LPok.none drat hs (drr1 x l c f hl k (i + 1) (by omega) acc hne (by omega) fu (by omega))
theorem drr0 (x : Bool) (l : List Lease_T) (c f : Int) (hl : l.length ≤ 100000) : ∀ (k i : Nat), i + k = l.length → ∀ (fu : Nat), k < fu →
  Runs' Try.prog cfg PKz 28 0 fu (drh0 x l c f i) (.exit 0, drE x l c f (((l.drop i).filter (drK l c f)).map drg))
 | 0, i, hi, fu + 1, hm => by
  rw [List.drop_of_length_le (by omega)]
  refine Runs'.done (lp := LP0) LPok.none drat ((drs0_w x l c f i).trans ?_)
  unfold drs0_r
  rw [bK_neg (by simp; omega)]
  rfl
 | k + 1, i, hi, fu + 1, hm => by
  have hi' : i < l.length := by omega
  have e : l.drop i = l[i] :: l.drop (i + 1) := List.drop_eq_getElem_cons hi'
  have hs := drs0_e x l c f i hi' hl
  rw [e, List.filter_cons]
  by_cases hk : drK l c f l[i] = true
  ·rw [if_pos hk] at hs ⊢
   exact Runs'.step (lp := LP0) LPok.none drat hs (drr1 x l c f hl k (i + 1) (by omega) [drg l[i]] (by simp) (by simp only [List.length_cons, List.length_nil]; omega) fu (by omega))
  ·rw [if_neg hk] at hs ⊢
   exact Runs'.step (lp := LP0) LPok.none drat hs (drr0 x l c f hl k (i + 1) (by omega) fu (by omega))
abbrev drC : Type := Int × Int
abbrev drD : Type := (Bool × List Lease_T) × drC
def drF (l : List Lease_T) (c f : Int) : List Lease_T := (l.filter (drK l c f)).map drg
def drH (d : drD) : St := drh0 d.1.1 d.1.2 d.2.1 d.2.2 0
theorem drH_inj (d d' : drD) (h : drH d = drH d') : d = d' := by
 obtain ⟨⟨x, l⟩, c, f⟩ := d
 obtain ⟨⟨x', l'⟩, c', f'⟩ := d'
 simp only [drH, drh0, St.mk.injEq, List.cons.injEq, Prod.mk.injEq, AV.slc.injEq, AV.int.injEq, and_true, true_and] at h
 have e1 := map_inj (fs := Lease_tfs) rfl h.1.2; rw [h.1.1, e1, h.2.1, h.2.2]
noncomputable def drL : LP := LP.of drH (fun d => d.1.2.length ≤ 100000) fun d => .ite (drF d.1.2 d.2.1 d.2.2).isEmpty (.leaf (.exit 0, { fr := [(7, .slc true [])], bs := [], df := [] })) (.leaf (.exit 0, { fr := [(7, .sref 592 0 0 ((drF d.1.2 d.2.1 d.2.2).map (mkV true Lease_tfs)).length)], bs := [(592, { v := 0, k := .row, fz := false, sz := 4, es := (drF d.1.2 d.2.1 d.2.2).map (mkV true Lease_tfs) })], df := [] }))
noncomputable def drP : LPs := LPs.add LP0 28 0 drL
theorem drP_ok : LPok Try.prog cfg PKz drP 28 := LPok.addH LPok.none dron (by
 rintro ⟨⟨x, l⟩, c, f⟩ h
 have h2 : l.length ≤ 100000 := h
 have := drr0 x l c f h2 l.length 0 (by omega) rounds (by simp only [rounds]; omega)
 rw [List.drop_zero] at this
 have e : drF l c f = (l.filter (drK l c f)).map drg := rfl
 rw [← e] at this
 unfold drE at this
 simp only [Alt.val]
 by_cases hq : drF l c f = []
 ·rw [if_pos hq] at this
  rw [hq]; exact this
 ·rw [if_neg hq] at this
  have : (drF l c f).isEmpty = false := by simpa using hq
  rw [this]; assumption)
abbrev clash_id : Nat := 51
abbrev clash_sh : Shp := [none, none, none, none, none]
abbrev clash_fs : List Lf := [.fl true Lease_tfs, .fi .i64, .fi .i64, .fi .i64, .fi .i64]
abbrev clash_rsh : Shp := [none]
abbrev clash_rfs : List Lf := [.fl false [.fi .i64]]
noncomputable def clash_r (l_x : Bool) (l : List Lease_T) (now : Int) (client : Int) (file : Int) (mode : Int) : Option Ret :=
 oK (csL.dec (sf [(0, sl l_x l), (1, i6 now), (2, i6 client), (3, i6 file), (4, i6 mode), (10, .slc true []), (14, sl l_x l), (15, i6 (↑(mW l).length : Int)), (16, i6 0)] [])) fun (d0 : LW × Int × Int × Int × Int) => bK (csF d0.1.2 d0.2.1 d0.2.2.1 d0.2.2.2.1 d0.2.2.2.2).isEmpty (some (rt (.slc true []))) (bK (decide (0 + (List.map (fun (z : Int) => i6 z) (csF d0.1.2 d0.2.1 d0.2.2.1 d0.2.2.2.1 d0.2.2.2.2)).length ≤ (List.map (fun (z : Int) => i6 z) (csF d0.1.2 d0.2.1 d0.2.2.1 d0.2.2.2.1 d0.2.2.2.2)).length)) (some (rt (.slc false (List.take (List.map (fun (z : Int) => i6 z) (csF d0.1.2 d0.2.1 d0.2.2.1 d0.2.2.2.1 d0.2.2.2.2)).length (List.drop 0 (List.map (fun (z : Int) => i6 z) (csF d0.1.2 d0.2.1 d0.2.2.1 d0.2.2.2.1 d0.2.2.2.2))))))) none)
theorem clash_w (l_x : Bool) (l : List Lease_T) (now : Int) (client : Int) (file : Int) (mode : Int) : unitQ Try.prog cfg T1 csP false 51 (groupA clash_sh (Tu.mk clash_fs ((l_x, l), now, client, file, mode))) [] = clash_r l_x l now client file mode := by kernel_rfl

noncomputable def clashS : FS := ⟨clash_sh, clash_fs, clash_rsh, clash_rfs, fun d => d.1.2.length ≤ 100000, fun d => ((csF d.1.2 d.2.1 d.2.2.1 d.2.2.2.1 d.2.2.2.2).isEmpty, csF d.1.2 d.2.1 d.2.2.1 d.2.2.2.1 d.2.2.2.2), none⟩
noncomputable def PKpr : PKs := clPK.add 43 pcdP
noncomputable def PKdr : PKs := clPK.add 43 dcdP
noncomputable def prune0 (x : Bool) (c : Int) : Option Ret := unitQ Try.prog cfg PKs0 LP0 false 46 [.slc x [], .int .i64 c] []
noncomputable def prune0_r (x : Bool) (c : Int) : Option Ret :=
 some (rt (.slc true []))
theorem prune0_w (x : Bool) (c : Int) : prune0 x c = prune0_r x c := by kernel_rfl

abbrev prune_id : Nat := 46
abbrev prune_sh : Shp := [none, none]
abbrev prune_fs : List Lf := [.fl true Lease_tfs, .fi .i64]
abbrev prune_rsh : Shp := [none]
abbrev prune_rfs : List Lf := [.fl true Lease_tfs]
noncomputable def prune_r (l_x : Bool) (l : List Lease_T) (now : Int) : Option Ret :=
 oK (clP.dec [sl l_x l] []) fun (d0 : Bool × List Wait_T) => oK (pcdP.dec [.sref 1000000 0 0 (mW d0.2).length, .fn 58 [] [pt 1000001]] [(rw4 d0.2), (bx [i6 now])]) fun (d1 : List Wait_T × Int) => bK (decide (0 + (pckF d1).length ≤ (mW (pckZ d1)).length)) (some (rt (.slc false (List.take (pckF d1).length (List.drop 0 (mW (pckZ d1))))))) none
theorem prune_w (l_x : Bool) (l : List Lease_T) (now : Int) : unitQ Try.prog cfg PKpr LP0 false 46 (groupA prune_sh (Tu.mk prune_fs ((l_x, l), now))) [] = prune_r l_x l now := by kernel_rfl

noncomputable def drop0 (x : Bool) (c f : Int) : Option Ret := unitQ Try.prog cfg PKs0 LP0 false 26 [.slc x [], .int .i64 c, .int .i64 f] []
noncomputable def drop0_r (x : Bool) (c : Int) (f : Int) : Option Ret :=
 some (rt (.slc true []))
theorem drop0_w (x : Bool) (c : Int) (f : Int) : drop0 x c f = drop0_r x c f := by kernel_rfl

abbrev drop_id : Nat := 26
abbrev drop_sh : Shp := [none, none, none]
abbrev drop_fs : List Lf := [.fl true Lease_tfs, .fi .i64, .fi .i64]
abbrev drop_rsh : Shp := [none]
abbrev drop_rfs : List Lf := [.fl true Lease_tfs]
noncomputable def drop_r (l_x : Bool) (l : List Lease_T) (client : Int) (file : Int) : Option Ret :=
 oK (clP.dec [sl l_x l] []) fun (d0 : Bool × List Wait_T) => oK (dcdP.dec [.sref 1000000 0 0 (mW d0.2).length, .fn 45 [] [pt 1000001, pt 1000002]] [(rw4 d0.2), (bx [i6 client]), (bx [i6 file])]) fun (d1 : List Wait_T × Int × Int) => bK (decide (0 + (dckF d1).length ≤ (mW (dckZ d1)).length)) (some (rt (.slc false (List.take (dckF d1).length (List.drop 0 (mW (dckZ d1))))))) none
theorem drop_w (l_x : Bool) (l : List Lease_T) (client : Int) (file : Int) : unitQ Try.prog cfg PKdr LP0 false 26 (groupA drop_sh (Tu.mk drop_fs ((l_x, l), client, file))) [] = drop_r l_x l client file := by kernel_rfl

abbrev drefo_id : Nat := 28
abbrev drefo_sh : Shp := [none, none, none]
abbrev drefo_fs : List Lf := [.fl true Lease_tfs, .fi .i64, .fi .i64]
abbrev drefo_rsh : Shp := [none]
abbrev drefo_rfs : List Lf := [.fl true Lease_tfs]
noncomputable def drefo_r (l_x : Bool) (l : List Lease_T) (client : Int) (file : Int) : Option Ret :=
 oK (drL.dec (sf [(0, sl l_x l), (1, i6 client), (2, i6 file), (7, .slc true []), (8, i6 0)] [])) fun (d0 : LW × Int × Int) => bK (drF d0.1.2 d0.2.1 d0.2.2).isEmpty (some (rt (.slc true []))) (some { pan := false, res := .sref 2000000 0 0 (mW (drF d0.1.2 d0.2.1 d0.2.2)).length, out := [], new := [(rw4 (drF d0.1.2 d0.2.1 d0.2.2))] })
theorem drefo_w (l_x : Bool) (l : List Lease_T) (client : Int) (file : Int) : unitQ Try.prog cfg PKz drP true 28 (groupA drefo_sh (Tu.mk drefo_fs ((l_x, l), client, file))) [] = drefo_r l_x l client file := by kernel_rfl

theorem clashO : ∀ d : Tu clashS.fs, clashS.pre d → CallOk Try.prog 51 (clashS.args d) [] (clashS.ret d) := by
 rintro ⟨⟨x, l⟩, now, c, f, m⟩ h
 have h' : l.length ≤ 100000 := h
 refine CallOk.unit (fnOk T1_ok 21) rfl csP_ok.loops (o := false) (by show 0 ≤ 1000; decide) ((clash_w x l now c f m).trans ?_)
 show _ = some (clashS.out ((csF l now c f m).isEmpty, csF l now c f m))
 unfold clash_r
 refine oK_lpq (Q := (· = _)) csH_inj ((x, l), now, c, f, m) h' ?_
 dsimp only
 generalize csF l now c f m = q
 cases q with
 | nil => rfl
 | cons a r =>
  refine bK_fq (Q := (· = _)) rfl (bK_tq (Q := (· = _)) (by simp) ?_)
  rw [List.drop_zero, List.take_length]
  rfl
def pruneQ (l : List Lease_T) (c : Int) : List Lease_T := l.filter fun w => !decide (w.2.2.2 ≤ c)
noncomputable def pruneS : FS := ⟨prune_sh, prune_fs, prune_rsh, prune_rfs, fun d => d.1.2.length ≤ 100000, fun d => (d.1.2.isEmpty, pruneQ d.1.2 d.2), none⟩
theorem pruneO : ∀ d : Tu pruneS.fs, pruneS.pre d → CallOk Try.prog 46 (pruneS.args d) [] (pruneS.ret d) := by
 rintro ⟨⟨x, l⟩, c⟩ h
 have h' : l.length ≤ 100000 := h
 cases l with
 | nil => exact CallOk.unit (fnOk PKs0_ok 21) rfl fLoops_none (o := false) (by show 0 ≤ 1000; decide) (prune0_w x c)
 | cons a r =>
  generalize hl : a :: r = l at h'
  have h1 : 1 ≤ l.length := by rw [← hl]; simp
  have he : l.isEmpty = false := by rw [← hl]; rfl
  have ok : PKsOk Try.prog PKpr := PKsOk.any clPK_ok 43 pcDA _ _ pcdO
  refine CallOk.unit (fnOk ok 21) rfl fLoops_none (o := false) (by show 0 ≤ 1000; decide) ((prune_w x l c).trans ?_)
  show _ = some (pruneS.out (l.isEmpty, pruneQ l c))
  rw [he]
  unfold prune_r
  refine oK_pkq (Q := (· = _)) cl_inj (x, l) ⟨h1, h'⟩ ?_
  refine oK_pkq (Q := (· = _)) pcDA_inj (l, c) ⟨h1, h'⟩ ?_
  have ek : pckF (l, c) = pruneQ l c := rfl
  have ez : (pckZ (l, c)).take (pruneQ l c).length = pruneQ l c := keepZ_take _ _ _
  have el : (pckZ (l, c)).length = l.length := keepZ_len _ _ _
  have : (pruneQ l c).length ≤ l.length := List.length_filter_le _ _
  rw [ek]
  refine bK_tq (Q := (· = _)) (by simp; omega) ?_
  rw [List.drop_zero, ← List.map_take, ez]
  rfl
def dropQ (l : List Lease_T) (c f : Int) : List Lease_T := l.filter fun w => !(decide (w.1 = c) && decide (w.2.1 = f))
noncomputable def dropS : FS := ⟨drop_sh, drop_fs, drop_rsh, drop_rfs, fun d => d.1.2.length ≤ 100000, fun d => (d.1.2.isEmpty, dropQ d.1.2 d.2.1 d.2.2), none⟩
theorem dropO : ∀ d : Tu dropS.fs, dropS.pre d → CallOk Try.prog 26 (dropS.args d) [] (dropS.ret d) := by
 rintro ⟨⟨x, l⟩, c, f⟩ h
 have h' : l.length ≤ 100000 := h
 cases l with
 | nil => exact CallOk.unit (fnOk PKs0_ok 21) rfl fLoops_none (o := false) (by show 0 ≤ 1000; decide) (drop0_w x c f)
 | cons a r =>
  generalize hl : a :: r = l at h'
  have h1 : 1 ≤ l.length := by rw [← hl]; simp
  have he : l.isEmpty = false := by rw [← hl]; rfl
  have ok : PKsOk Try.prog PKdr := PKsOk.any clPK_ok 43 dcDA _ _ dcdO
  refine CallOk.unit (fnOk ok 21) rfl fLoops_none (o := false) (by show 0 ≤ 1000; decide) ((drop_w x l c f).trans ?_)
  show _ = some (dropS.out (l.isEmpty, dropQ l c f))
  rw [he]
  unfold drop_r
  refine oK_pkq (Q := (· = _)) cl_inj (x, l) ⟨h1, h'⟩ ?_
  refine oK_pkq (Q := (· = _)) dcDA_inj (l, (c, f)) ⟨h1, h'⟩ ?_
  have ek : dckF (l, (c, f)) = dropQ l c f := rfl
  have ez : (dckZ (l, (c, f))).take (dropQ l c f).length = dropQ l c f := keepZ_take _ _ _
  have el : (dckZ (l, (c, f))).length = l.length := keepZ_len _ _ _
  have : (dropQ l c f).length ≤ l.length := List.length_filter_le _ _
  rw [ek]
  refine bK_tq (Q := (· = _)) (by simp; omega) ?_
  rw [List.drop_zero, ← List.map_take, ez]
  rfl
theorem drF_eq (l : List Lease_T) (c f : Int) : drF l c f = dropQ l c f := by
 show (l.filter (drK l c f)).map drg = _
 rw [show drg = id from rfl, List.map_id]
 rfl
noncomputable def drefoS : FS := ⟨drefo_sh, drefo_fs, drefo_rsh, drefo_rfs, fun d => d.1.2.length ≤ 100000, fun d => (true, dropQ d.1.2 d.2.1 d.2.2), some (0, 4)⟩
theorem drefoO : ∀ d : Tu drefoS.fs, drefoS.pre d → CallOk Try.prog 28 (drefoS.args d) [] (drefoS.ret d) := by
 rintro ⟨⟨x, l⟩, c, f⟩ h
 have h' : l.length ≤ 100000 := h
 refine CallOk.unit (fnOk PKz_ok 21) rfl drP_ok.loops (o := true) (by show 0 ≤ 1000; decide) ((drefo_w x l c f).trans ?_)
 unfold drefo_r
 refine oK_lpq (Q := (· = _)) drH_inj ((x, l), c, f) h' ?_
 dsimp only
 rw [drF_eq]
 refine Eq.trans ?_ (congrArg some (own_one (sz := 4) (x := true) (l := dropQ l c f) (f := mkV true Lease_tfs) (out := [])).symm)
 cases hd : dropQ l c f with
 | nil => rfl
 | cons a r =>
  refine bK_fq (Q := (· = _)) rfl ?_
  rw [if_neg (by simp), List.length_map]
  rfl

end Go.Proofs.Ytkanmigbbpppnaa
