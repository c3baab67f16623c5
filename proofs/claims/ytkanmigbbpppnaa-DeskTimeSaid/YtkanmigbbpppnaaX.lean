/- A part of the proof: contracts of functions. -/
import Derived.Test.YtkanmigbbpppnaaW
import Derived.Test.YtkanmigbbpppnaaAbAny

set_option linter.unusedVariables false
set_option linter.unusedSimpArgs false
set_option maxRecDepth 100000
namespace Go.Proofs.Ytkanmigbbpppnaa
open Go Go.Ab
theorem csby : Try.prog.bytesOf 3 = 8 := by kernel_rfl
theorem csfit {n : Nat} (h : n ≤ 1000000) : bytesFit Try.prog 3 n = true := by
 simp only [bytesFit, csby, decide_eq_true_eq]; omega
def csh0 (x : Bool) (l : List Lease_T) (now c f m : Int) (i : Int) : St := { fr := [(0, .slc x (l.map (mkV true Lease_tfs))), (1, .int .i64 now), (2, .int .i64 c), (3, .int .i64 f), (4, .int .i64 m), (10, .slc true []), (14, .slc x (l.map (mkV true Lease_tfs))), (15, .int .i64 (((l.map (mkV true Lease_tfs)).length : Nat) : Int)), (16, .int .i64 i)], bs := [], df := [] }
def csh1 (x : Bool) (l : List Lease_T) (acc : List Int) (now c f m : Int) (i : Int) : St := { fr := [(0, .slc x (l.map (mkV true Lease_tfs))), (1, .int .i64 now), (2, .int .i64 c), (3, .int .i64 f), (4, .int .i64 m), (10, .sref 800 0 0 (acc.map (fun z : Int => AV.int .i64 z)).length), (14, .slc x (l.map (mkV true Lease_tfs))), (15, .int .i64 (((l.map (mkV true Lease_tfs)).length : Nat) : Int)), (16, .int .i64 i)], bs := [(800, { v := 0, k := .row, fz := false, sz := 1, es := acc.map (fun z : Int => AV.int .i64 z) })], df := [] }
noncomputable def css0 (x : Bool) (l : List Lease_T) (now c f m : Int) (i : Int) : Option (St ⊕ (Ex × St)) := stepK Try.prog cfg T1 LP0 51 0 (csh0 x l now c f m i)
noncomputable def css0_r (x : Bool) (l : List Lease_T) (now : Int) (c : Int) (f : Int) (m : Int) (i : Int) : Option (St ⊕ Ex × St) :=
 bK (decide (i < (↑(mW l).length : Int)))
 (oK (elemAt true Wait_tfs (mW l) i) fun (d0 : Int × Int × Int × Int) =>
 bK (!decide (d0.2.1 = f)) (some (.inl (sf [(0, sl x l), (1, i6 now), (2, i6 c), (3, i6 f), (4, i6 m), (10, .slc true []), (14, sl x l), (15, i6 (↑(mW l).length : Int)), (16, i6 (IntKind.i64.wrap (i + 1)))] [])))
 (bK (decide (d0.1 = c)) (some (.inl (sf [(0, sl x l), (1, i6 now), (2, i6 c), (3, i6 f), (4, i6 m), (10, .slc true []), (14, sl x l), (15, i6 (↑(mW l).length : Int)), (16, i6 (IntKind.i64.wrap (i + 1)))] [])))
 (oK (holdsS.dec [sl x l, i6 now, i6 d0.1, i6 f] []) fun (d1 : LW × Int × Int × Int) =>
 bK (!decide (holdQ d1.1.2 d1.2.1 d1.2.2.1 d1.2.2.2 = 0))
 (bK (decide (m = 2)) (some (.inl (sf [(0, sl x l), (1, i6 now), (2, i6 c), (3, i6 f), (4, i6 m), (10, .sref 800 0 0 1), (14, sl x l), (15, i6 (↑(mW l).length : Int)), (16, i6 (IntKind.i64.wrap (i + 1)))] [(800, { v := 0, k := .row, fz := false, sz := 1, es := [i6 d0.1] })])))
 (bK (decide (holdQ d1.1.2 d1.2.1 d1.2.2.1 d1.2.2.2 = 2)) (some (.inl (sf [(0, sl x l), (1, i6 now), (2, i6 c), (3, i6 f), (4, i6 m), (10, .sref 800 0 0 1), (14, sl x l), (15, i6 (↑(mW l).length : Int)), (16, i6 (IntKind.i64.wrap (i + 1)))] [(800, { v := 0, k := .row, fz := false, sz := 1, es := [i6 d0.1] })]))) (some (.inl (sf [(0, sl x l), (1, i6 now), (2, i6 c), (3, i6 f), (4, i6 m), (10, .slc true []), (14, sl x l), (15, i6 (↑(mW l).length : Int)), (16, i6 (IntKind.i64.wrap (i + 1)))] [])))))
 (some (.inl (sf [(0, sl x l), (1, i6 now), (2, i6 c), (3, i6 f), (4, i6 m), (10, .slc true []), (14, sl x l), (15, i6 (↑(mW l).length : Int)), (16, i6 (IntKind.i64.wrap (i + 1)))] []))))))
 (some (.inr (.exit 0, (sf [(10, .slc true [])] []))))
theorem css0_w (x : Bool) (l : List Lease_T) (now : Int) (c : Int) (f : Int) (m : Int) (i : Int) : css0 x l now c f m i = css0_r x l now c f m i := by kernel_rfl

noncomputable def css1 (x : Bool) (l : List Lease_T) (acc : List Int) (now c f m : Int) (i : Int) : Option (St ⊕ (Ex × St)) := stepK Try.prog cfg T1 LP0 51 0 (csh1 x l acc now c f m i)
noncomputable def css1_r (x : Bool) (l : List Lease_T) (acc : List Int) (now : Int) (c : Int) (f : Int) (m : Int) (i : Int) : Option (St ⊕ Ex × St) :=
 bK (decide (i < (↑(mW l).length : Int)))
 (oK (elemAt true Wait_tfs (mW l) i) fun (d0 : Int × Int × Int × Int) =>
 bK (!decide (d0.2.1 = f)) (some (.inl (sf [(0, sl x l), (1, i6 now), (2, i6 c), (3, i6 f), (4, i6 m), (10, .sref 800 0 0 (List.map (fun (z : Int) => i6 z) acc).length), (14, sl x l), (15, i6 (↑(mW l).length : Int)), (16, i6 (IntKind.i64.wrap (i + 1)))] [(800, { v := 0, k := .row, fz := false, sz := 1, es := List.map (fun (z : Int) => i6 z) acc })])))
 (bK (decide (d0.1 = c)) (some (.inl (sf [(0, sl x l), (1, i6 now), (2, i6 c), (3, i6 f), (4, i6 m), (10, .sref 800 0 0 (List.map (fun (z : Int) => i6 z) acc).length), (14, sl x l), (15, i6 (↑(mW l).length : Int)), (16, i6 (IntKind.i64.wrap (i + 1)))] [(800, { v := 0, k := .row, fz := false, sz := 1, es := List.map (fun (z : Int) => i6 z) acc })])))
 (oK (holdsS.dec [sl x l, i6 now, i6 d0.1, i6 f] []) fun (d1 : LW × Int × Int × Int) =>
 bK (!decide (holdQ d1.1.2 d1.2.1 d1.2.2.1 d1.2.2.2 = 0))
 (bK (decide (m = 2)) (bK (decide (0 + (List.map (fun (z : Int) => i6 z) acc).length ≤ (List.map (fun (z : Int) => i6 z) acc).length)) (bK (decide (0 = 0 ∧ (List.map (fun (z : Int) => i6 z) acc).length = (List.map (fun (z : Int) => i6 z) acc).length) && bytesFit Try.prog 3 ((List.map (fun (z : Int) => i6 z) acc).length + 1)) (some (.inl (sf [(0, sl x l), (1, i6 now), (2, i6 c), (3, i6 f), (4, i6 m), (10, .sref 800 0 0 ((List.map (fun (z : Int) => i6 z) acc).length + 1)), (14, sl x l), (15, i6 (↑(mW l).length : Int)), (16, i6 (IntKind.i64.wrap (i + 1)))] [(800, { v := 0, k := .row, fz := false, sz := 1, es := List.take (List.map (fun (z : Int) => i6 z) acc).length (List.map (fun (z : Int) => i6 z) acc) ++ [i6 d0.1] })]))) none) none)
 (bK (decide (holdQ d1.1.2 d1.2.1 d1.2.2.1 d1.2.2.2 = 2)) (bK (decide (0 + (List.map (fun (z : Int) => i6 z) acc).length ≤ (List.map (fun (z : Int) => i6 z) acc).length)) (bK (decide (0 = 0 ∧ (List.map (fun (z : Int) => i6 z) acc).length = (List.map (fun (z : Int) => i6 z) acc).length) && bytesFit Try.prog 3 ((List.map (fun (z : Int) => i6 z) acc).length + 1)) (some (.inl (sf [(0, sl x l), (1, i6 now), (2, i6 c), (3, i6 f), (4, i6 m), (10, .sref 800 0 0 ((List.map (fun (z : Int) => i6 z) acc).length + 1)), (14, sl x l), (15, i6 (↑(mW l).length : Int)), (16, i6 (IntKind.i64.wrap (i + 1)))] [(800, { v := 0, k := .row, fz := false, sz := 1, es := List.take (List.map (fun (z : Int) => i6 z) acc).length (List.map (fun (z : Int) => i6 z) acc) ++ [i6 d0.1] })]))) none) none)
 (some (.inl (sf [(0, sl x l), (1, i6 now), (2, i6 c), (3, i6 f), (4, i6 m), (10, .sref 800 0 0 (List.map (fun (z : Int) => i6 z) acc).length), (14, sl x l), (15, i6 (↑(mW l).length : Int)), (16, i6 (IntKind.i64.wrap (i + 1)))] [(800, { v := 0, k := .row, fz := false, sz := 1, es := List.map (fun (z : Int) => i6 z) acc })])))))
 (some (.inl (sf [(0, sl x l), (1, i6 now), (2, i6 c), (3, i6 f), (4, i6 m), (10, .sref 800 0 0 (List.map (fun (z : Int) => i6 z) acc).length), (14, sl x l), (15, i6 (↑(mW l).length : Int)), (16, i6 (IntKind.i64.wrap (i + 1)))] [(800, { v := 0, k := .row, fz := false, sz := 1, es := List.map (fun (z : Int) => i6 z) acc })]))))))
 (some (.inr (.exit 0, (sf [(10, .sref 800 0 0 (List.map (fun (z : Int) => i6 z) acc).length)] [(800, { v := 0, k := .row, fz := false, sz := 1, es := List.map (fun (z : Int) => i6 z) acc })]))))
theorem css1_w (x : Bool) (l : List Lease_T) (acc : List Int) (now : Int) (c : Int) (f : Int) (m : Int) (i : Int) : css1 x l acc now c f m i = css1_r x l acc now c f m i := by kernel_rfl

theorem csput (x : Bool) (l : List Lease_T) (acc : List Int) (a : Int) (now c f m : Int) (i : Int) : csh1 x l (acc ++ [a]) now c f m i = { fr := [(0, .slc x (l.map (mkV true Lease_tfs))), (1, .int .i64 now), (2, .int .i64 c), (3, .int .i64 f), (4, .int .i64 m), (10, .sref 800 0 0 ((acc.map (fun z : Int => AV.int .i64 z)).length + 1)), (14, .slc x (l.map (mkV true Lease_tfs))), (15, .int .i64 (((l.map (mkV true Lease_tfs)).length : Nat) : Int)), (16, .int .i64 i)], bs := [(800, { v := 0, k := .row, fz := false, sz := 1, es := List.take (acc.map (fun z : Int => AV.int .i64 z)).length (acc.map (fun z : Int => AV.int .i64 z)) ++ [(fun z : Int => AV.int .i64 z) a] })], df := [] } := by
 unfold csh1
 rw [List.map_append, List.length_append, List.take_length]
 rfl
def csK (l : List Lease_T) (now c f m : Int) (d : Lease_T) : Bool := decide (d.2.1 = f) && !decide (d.1 = c) && (!decide (holdQ l now d.1 f = 0) && (decide (m = 2) || decide (holdQ l now d.1 f = 2)))
def csg (d : Lease_T) : Int := d.1
def csE (x : Bool) (l : List Lease_T) (now c f m : Int) (acc : List Int) : St := if acc = [] then { fr := [(10, .slc true [])], bs := [], df := [] } else { fr := [(10, .sref 800 0 0 (acc.map (fun z : Int => AV.int .i64 z)).length)], bs := [(800, { v := 0, k := .row, fz := false, sz := 1, es := acc.map (fun z : Int => AV.int .i64 z) })], df := [] }
theorem cslo : (loopsOf 0 (codeOf Try.prog 51)).map (·.1) = [0] := by kernel_rfl
theorem cson : OneLoops Try.prog 51 := by unfold OneLoops; rw [cslo]; decide
theorem csat : At 0 (codeOf Try.prog 51) 0 (.loop (bodyAt Try.prog 51 0)) := at_body cson (by rw [cslo]; decide)
theorem css0_e (x : Bool) (l : List Lease_T) (now c f m : Int) (i : Nat) (hi : i < l.length) (hl : l.length ≤ 100000) : css0 x l now c f m i = some (.inl (if csK l now c f m l[i] = true then csh1 x l ([] ++ [csg l[i]]) now c f m ((i + 1 : Nat) : Int) else csh0 x l now c f m ((i + 1 : Nat) : Int))) := by
 refine (css0_w x l now c f m i).trans ?_
 unfold css0_r
 refine bK_tq (Q := (· = _)) (by simp; omega) ?_
 have e1 : IntKind.i64.wrap ((i : Int) + 1) = ((i + 1 : Nat) : Int) := by rw [w64 (by omega) (by omega)]; omega
 have e2 : l.getD (i : Int).toNat (0, 0, 0, 0) = l[i] := by rw [Int.toNat_natCast, getD_at hi]
 have at_ : ∀ {Q : Option (St ⊕ (Ex × St)) → Prop} {k : Lease_T → Option (St ⊕ (Ex × St))}, Q (k l[i]) → Q (oK (elemAt true Lease_tfs (l.map (mkV true Lease_tfs)) i) k) := fun hk => oK_atq (fs := Lease_tfs) (0, 0, 0, 0) (by omega) (by simpa using hi) (by rw [e2]; exact hk)
 rw [e1]
 have yes : csK l now c f m l[i] = true → ∀ z : Option (St ⊕ (Ex × St)), z = some (.inl (csh1 x l ([] ++ [csg l[i]]) now c f m ((i + 1 : Nat) : Int))) → z = some (.inl (if csK l now c f m l[i] = true then csh1 x l ([] ++ [csg l[i]]) now c f m ((i + 1 : Nat) : Int) else csh0 x l now c f m ((i + 1 : Nat) : Int))) := fun h z hz => by rw [if_pos h]; exact hz
 have no : csK l now c f m l[i] = false → ∀ z : Option (St ⊕ (Ex × St)), z = some (.inl (csh0 x l now c f m ((i + 1 : Nat) : Int))) → z = some (.inl (if csK l now c f m l[i] = true then csh1 x l ([] ++ [csg l[i]]) now c f m ((i + 1 : Nat) : Int) else csh0 x l now c f m ((i + 1 : Nat) : Int))) := fun h z hz => by rw [if_neg (by rw [h]; simp)]; exact hz
 refine at_ (Q := (· = _)) ?_
 refine bK_nq (Q := (· = _)) (fun c1 => no (by simp [csK, c1]) _ rfl) (fun c1 => ?_)
 refine bK_iq (Q := (· = _)) (fun c2 => no (by simp [csK, c2]) _ rfl) (fun c2 => ?_)
 refine oK_fsq (Q := (· = _)) holdsS ((x, l), now, l[i].1, f) hl ?_
 refine bK_nq (Q := (· = _)) (fun c3 => ?_) (fun c3 => no (by simp [csK, c3]) _ rfl)
 refine bK_iq (Q := (· = _)) (fun c4 => yes (by simp [csK, c1, c2, c3, c4]) _ rfl) (fun c4 => ?_)
 refine bK_iq (Q := (· = _)) (fun c5 => yes (by simp [csK, c1, c2, c5]) _ rfl) (fun c5 => no (by simp [csK, c4, c5]) _ rfl)
theorem css1_e (x : Bool) (l : List Lease_T) (acc : List Int) (now c f m : Int) (i : Nat) (hi : i < l.length) (hl : l.length ≤ 100000) (ha : acc.length ≤ i) (hne : acc ≠ []) : css1 x l acc now c f m i = some (.inl (if csK l now c f m l[i] = true then csh1 x l (acc ++ [csg l[i]]) now c f m ((i + 1 : Nat) : Int) else csh1 x l acc now c f m ((i + 1 : Nat) : Int))) := by
 refine (css1_w x l acc now c f m i).trans ?_
 unfold css1_r
 refine bK_tq (Q := (· = _)) (by simp; omega) ?_
 have e1 : IntKind.i64.wrap ((i : Int) + 1) = ((i + 1 : Nat) : Int) := by rw [w64 (by omega) (by omega)]; omega
 have e2 : l.getD (i : Int).toNat (0, 0, 0, 0) = l[i] := by rw [Int.toNat_natCast, getD_at hi]
 have at_ : ∀ {Q : Option (St ⊕ (Ex × St)) → Prop} {k : Lease_T → Option (St ⊕ (Ex × St))}, Q (k l[i]) → Q (oK (elemAt true Lease_tfs (l.map (mkV true Lease_tfs)) i) k) := fun hk => oK_atq (fs := Lease_tfs) (0, 0, 0, 0) (by omega) (by simpa using hi) (by rw [e2]; exact hk)
 rw [e1]
 have yes : csK l now c f m l[i] = true → ∀ z : Option (St ⊕ (Ex × St)), z = some (.inl (csh1 x l (acc ++ [csg l[i]]) now c f m ((i + 1 : Nat) : Int))) → z = some (.inl (if csK l now c f m l[i] = true then csh1 x l (acc ++ [csg l[i]]) now c f m ((i + 1 : Nat) : Int) else csh1 x l acc now c f m ((i + 1 : Nat) : Int))) := fun h z hz => by rw [if_pos h]; exact hz
 have no : csK l now c f m l[i] = false → ∀ z : Option (St ⊕ (Ex × St)), z = some (.inl (csh1 x l acc now c f m ((i + 1 : Nat) : Int))) → z = some (.inl (if csK l now c f m l[i] = true then csh1 x l (acc ++ [csg l[i]]) now c f m ((i + 1 : Nat) : Int) else csh1 x l acc now c f m ((i + 1 : Nat) : Int))) := fun h z hz => by rw [if_neg (by rw [h]; simp)]; exact hz
 refine at_ (Q := (· = _)) ?_
 refine bK_nq (Q := (· = _)) (fun c1 => no (by simp [csK, c1]) _ rfl) (fun c1 => ?_)
 refine bK_iq (Q := (· = _)) (fun c2 => no (by simp [csK, c2]) _ rfl) (fun c2 => ?_)
 refine oK_fsq (Q := (· = _)) holdsS ((x, l), now, l[i].1, f) hl ?_
 refine bK_nq (Q := (· = _)) (fun c3 => ?_) (fun c3 => no (by simp [csK, c3]) _ rfl)
 refine bK_iq (Q := (· = _)) (fun c4 => yes (by simp [csK, c1, c2, c3, c4]) _ (by refine bK_tq (Q := (· = _)) (by simp) (bK_tq (Q := (· = _)) (by simp only [decide_true, and_self, Bool.true_and, List.length_map]; exact csfit (by omega)) ?_); rw [csput]; rfl)) (fun c4 => ?_)
 refine bK_iq (Q := (· = _)) (fun c5 => yes (by simp [csK, c1, c2, c5]) _ (by refine bK_tq (Q := (· = _)) (by simp) (bK_tq (Q := (· = _)) (by simp only [decide_true, and_self, Bool.true_and, List.length_map]; exact csfit (by omega)) ?_); rw [csput]; rfl)) (fun c5 => no (by simp [csK, c4, c5]) _ rfl)
theorem csr1 (x : Bool) (l : List Lease_T) (now c f m : Int) (hl : l.length ≤ 100000) : ∀ (k i : Nat), i + k = l.length → ∀ (acc : List Int), acc ≠ [] → acc.length ≤ i → ∀ (fu : Nat), k < fu →
  Runs' Try.prog cfg T1 51 0 fu (csh1 x l acc now c f m i) (.exit 0, csE x l now c f m (acc ++ ((l.drop i).filter (csK l now c f m)).map csg))
 | 0, i, hi, acc, hne, ha, fu + 1, hm => by
  rw [List.drop_of_length_le (by omega)]
  refine Runs'.done (lp := LP0) LPok.none csat ((css1_w x l acc now c f m i).trans ?_)
  unfold css1_r
  rw [bK_neg (by simp; omega)]
  simp only [List.filter_nil, List.map_nil, List.append_nil]
  unfold csE
  rw [if_neg hne]
 | k + 1, i, hi, acc, hne, ha, fu + 1, hm => by
  have hi' : i < l.length := by omega
  have e : l.drop i = l[i] :: l.drop (i + 1) := List.drop_eq_getElem_cons hi'
  have hs := css1_e x l acc now c f m i hi' hl ha hne
  rw [e, List.filter_cons]
  by_cases hk : csK l now c f m l[i] = true
  ·rw [if_pos hk] at hs ⊢
   have := csr1 x l now c f m hl k (i + 1) (by omega) (acc ++ [csg l[i]]) (by simp) (by simp; omega) fu (by omega)
   rw [List.append_assoc] at this
   exact Runs'.step (lp := LP0) LPok.none csat hs this
  ·rw [if_neg hk] at hs ⊢
   exact Runs'.step (lp := LP0) LPok.none csat hs (csr1 x l now c f m hl k (i + 1) (by omega) acc hne (by omega) fu (by omega))
theorem csr0 (x : Bool) (l : List Lease_T) (now c f m : Int) (hl : l.length ≤ 100000) : ∀ (k i : Nat), i + k = l.length → ∀ (fu : Nat), k < fu →
  Runs' Try.prog cfg T1 51 0 fu (csh0 x l now c f m i) (.exit 0, csE x l now c f m (((l.drop i).filter (csK l now c f m)).map csg))
 | 0, i, hi, fu + 1, hm => by
  rw [List.drop_of_length_le (by omega)]
  refine Runs'.done (lp := LP0) LPok.none csat ((css0_w x l now c f m i).trans ?_)
  unfold css0_r
  rw [bK_neg (by simp; omega)]
  rfl
 | k + 1, i, hi, fu + 1, hm => by
  have hi' : i < l.length := by omega
  have e : l.drop i = l[i] :: l.drop (i + 1) := List.drop_eq_getElem_cons hi'
  have hs := css0_e x l now c f m i hi' hl
  rw [e, List.filter_cons]
  by_cases hk : csK l now c f m l[i] = true
  ·rw [if_pos hk] at hs ⊢
   exact Runs'.step (lp := LP0) LPok.none csat hs (csr1 x l now c f m hl k (i + 1) (by omega) [csg l[i]] (by simp) (by simp only [List.length_cons, List.length_nil]; omega) fu (by omega))
  ·rw [if_neg hk] at hs ⊢
   exact Runs'.step (lp := LP0) LPok.none csat hs (csr0 x l now c f m hl k (i + 1) (by omega) fu (by omega))
abbrev csC : Type := Int × Int × Int × Int
abbrev csD : Type := (Bool × List Lease_T) × csC
def csF (l : List Lease_T) (now c f m : Int) : List Int := (l.filter (csK l now c f m)).map csg
def csH (d : csD) : St := csh0 d.1.1 d.1.2 d.2.1 d.2.2.1 d.2.2.2.1 d.2.2.2.2 0
theorem csH_inj (d d' : csD) (h : csH d = csH d') : d = d' := by
 obtain ⟨⟨x, l⟩, now, c, f, m⟩ := d
 obtain ⟨⟨x', l'⟩, now', c', f', m'⟩ := d'
 simp only [csH, csh0, St.mk.injEq, List.cons.injEq, Prod.mk.injEq, AV.slc.injEq, AV.int.injEq, and_true, true_and] at h
 have e1 := map_inj (fs := Lease_tfs) rfl h.1.2; rw [h.1.1, e1, h.2.1, h.2.2.1, h.2.2.2.1, h.2.2.2.2.1]
noncomputable def csL : LP := LP.of csH (fun d => d.1.2.length ≤ 100000) fun d => .ite (csF d.1.2 d.2.1 d.2.2.1 d.2.2.2.1 d.2.2.2.2).isEmpty (.leaf (.exit 0, { fr := [(10, .slc true [])], bs := [], df := [] })) (.leaf (.exit 0, { fr := [(10, .sref 800 0 0 ((csF d.1.2 d.2.1 d.2.2.1 d.2.2.2.1 d.2.2.2.2).map (fun z : Int => AV.int .i64 z)).length)], bs := [(800, { v := 0, k := .row, fz := false, sz := 1, es := (csF d.1.2 d.2.1 d.2.2.1 d.2.2.2.1 d.2.2.2.2).map (fun z : Int => AV.int .i64 z) })], df := [] }))
noncomputable def csP : LPs := LPs.add LP0 51 0 csL
theorem csP_ok : LPok Try.prog cfg T1 csP 51 := LPok.addH LPok.none cson (by
 rintro ⟨⟨x, l⟩, now, c, f, m⟩ h
 have h2 : l.length ≤ 100000 := h
 have := csr0 x l now c f m h2 l.length 0 (by omega) rounds (by simp only [rounds]; omega)
 rw [List.drop_zero] at this
 have e : csF l now c f m = (l.filter (csK l now c f m)).map csg := rfl
 rw [← e] at this
 unfold csE at this
 simp only [Alt.val]
 by_cases hq : csF l now c f m = []
 ·rw [if_pos hq] at this
  rw [hq]; exact this
 ·rw [if_neg hq] at this
  have : (csF l now c f m).isEmpty = false := by simpa using hq
  rw [this]; assumption)

end Go.Proofs.Ytkanmigbbpppnaa
