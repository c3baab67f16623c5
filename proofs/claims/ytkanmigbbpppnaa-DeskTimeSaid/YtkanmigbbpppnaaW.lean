/- A part of the proof: contracts of functions. -/
import Derived.Test.YtkanmigbbpppnaaV
import Derived.Test.YtkanmigbbpppnaaAbAny

set_option linter.unusedVariables false
set_option linter.unusedSimpArgs false
set_option maxRecDepth 100000
namespace Go.Proofs.Ytkanmigbbpppnaa
open Go Go.Ab
abbrev dcC : Type := Int × Int
abbrev dcD : Type := Lease_T × dcC
def dcB (c : dcC) : List Blk := [boxB [.int .i64 c.1], boxB [.int .i64 c.2]]
def dcA (d : dcD) : List AV × List Blk := (.agg (Tu.mk Lease_tfs d.1) :: [.ptr (outBase + 0) 0 0 0, .ptr (outBase + 1) 0 0 0], dcB d.2)
noncomputable def dccu (w : Lease_T) (c : dcC) : Option Ret := unitQ Try.prog cfg PKz LP0 false 45 (dcA (w, c)).1 (dcA (w, c)).2
noncomputable def dccu_r (w : Lease_T) (c : dcC) : Option Ret :=
 bK (decide (w.1 = c.1)) (some { pan := false, res := .bool (decide (w.2.1 = c.2)), out := [(bx [i6 c.1]), (bx [i6 c.2])], new := [] }) (some { pan := false, res := .bool false, out := [(bx [i6 c.1]), (bx [i6 c.2])], new := [] })
theorem dccu_w (w : Lease_T) (c : dcC) : dccu w c = dccu_r w c := by kernel_rfl

def dcQ (d : dcD) : Bool := (decide (d.1.1 = d.2.1) && decide (d.1.2.1 = d.2.2))
noncomputable def dcP : PK := PK.of dcA (fun _ => True) fun d => .leaf { pan := false, res := .bool (dcQ d), out := dcB d.2, new := [] }
noncomputable def dc1 : PKs := PKz.add 45 dcP
theorem dc1_ok : PKsOk Try.prog dc1 := PKsOk.any PKz_ok 45 dcA _ _ fun d _ => CallOk.unit (fnOk PKz_ok 21) rfl fLoops_none (by show 2 ≤ 1000; decide) (by 
 obtain ⟨w, c⟩ := d
 refine (dccu_w w c).trans ?_
 unfold dccu_r
 show _ = some ({ pan := false, res := .bool (decide (w.1 = c.1) && decide (w.2.1 = c.2)), out := dcB c, new := [] } : Ret)
 refine bK_i (fun h => ?_) (fun h => ?_)
 ·rw [decide_eq_true h]; rfl
 ·rw [decide_eq_false h]; rfl)
theorem dcA_inj (d d' : dcD) (h : dcA d = dcA d') : d = d' := by
 obtain ⟨w, c⟩ := d
 obtain ⟨w', c'⟩ := d'
 simp only [dcA, dcB, boxB, List.cons.injEq, Prod.mk.injEq, AV.agg.injEq, Blk.mk.injEq, AV.int.injEq, and_true, true_and] at h
 refine Prod.ext (mk_inj (fs := Lease_tfs) rfl h.1) ?_
 simp only [Prod.ext_iff]; simpa using h.2
def dcRow (l : List Lease_T) : Blk := { v := 0, k := .row, fz := false, sz := 4, es := l.map (mkV true Lease_tfs) }
def dcDA (d : List Lease_T × dcC) : List AV × List Blk := ([.sref outBase 0 0 (d.1.map (mkV true Lease_tfs)).length, .fn 45 [] [.ptr (outBase + 1) 0 0 0, .ptr (outBase + 2) 0 0 0]], dcRow d.1 :: dcB d.2)
theorem dcDA_inj (d d' : List Lease_T × dcC) (h : dcDA d = dcDA d') : d = d' := by
 obtain ⟨l, c⟩ := d
 obtain ⟨l', c'⟩ := d'
 simp only [dcDA, dcRow, dcB, boxB, List.cons.injEq, Prod.mk.injEq, Blk.mk.injEq, AV.int.injEq, and_true, true_and] at h
 refine Prod.ext (map_inj (fs := Lease_tfs) rfl h.2.1) ?_
 simp only [Prod.ext_iff]; simpa using h.2.2
def dcbs (q : Bool) (l : List Lease_T) (c : dcC) : List (Nat × Blk) := if q then [(1000001, boxB [.int .i64 c.1]), (1000002, boxB [.int .i64 c.2]), (1000000, dcRow l)] else [(1000000, dcRow l), (1000001, boxB [.int .i64 c.1]), (1000002, boxB [.int .i64 c.2])]
def dcih (q : Bool) (l : List Lease_T) (c : dcC) (i : Int) : St := { fr := [(0, .sref 1000000 0 0 (l.map (mkV true Lease_tfs)).length), (1, .fn 45 [] [AV.ptr 1000001 0 0 0, AV.ptr 1000002 0 0 0]), (7, .int .i64 (((l.map (mkV true Lease_tfs)).length : Nat) : Int)), (8, .int .i64 i)], bs := dcbs q l c, df := [] }
noncomputable def dci0 (l : List Lease_T) (c : dcC) (i : Int) : Option (St ⊕ (Ex × St)) := stepK Try.prog cfg dc1 LP0 57 0 (dcih false l c i)
noncomputable def dci0_r (l : List Lease_T) (c : dcC) (i : Int) : Option (St ⊕ Ex × St) :=
 bK (decide (i < (↑(mW l).length : Int)))
 (bK (decide (0 ≤ i ∧ i < (↑(mW l).length : Int)))
 (oK (ldRow Wait_tfs (mW l) (0 + i.toNat) 0) fun (d0 : Int × Int × Int × Int) => oK (dcP.dec [AV.agg [i6 d0.1, i6 d0.2.1, i6 d0.2.2.1, i6 d0.2.2.2], pt 1000000, pt 1000001] [(bx [i6 c.1]), (bx [i6 c.2])]) fun (d1 : (Int × Int × Int × Int) × Int × Int) => bK (dcQ d1) (some (.inr (.ret, (sf [(4, i6 i)] [(1000001, (bx [i6 d1.2.1])), (1000002, (bx [i6 d1.2.2])), (1000000, (rw4 l))])))) (some (.inl (sf [(0, .sref 1000000 0 0 (mW l).length), (1, .fn 45 [] [pt 1000001, pt 1000002]), (7, i6 (↑(mW l).length : Int)), (8, i6 (IntKind.i64.wrap (i + 1)))] [(1000001, (bx [i6 d1.2.1])), (1000002, (bx [i6 d1.2.2])), (1000000, (rw4 l))])))) none)
 (some (.inr (.exit 0, (sf [] [(1000000, (rw4 l)), (1000001, (bx [i6 c.1])), (1000002, (bx [i6 c.2]))]))))
theorem dci0_w (l : List Lease_T) (c : dcC) (i : Int) : dci0 l c i = dci0_r l c i := by kernel_rfl

noncomputable def dci1 (l : List Lease_T) (c : dcC) (i : Int) : Option (St ⊕ (Ex × St)) := stepK Try.prog cfg dc1 LP0 57 0 (dcih true l c i)
noncomputable def dci1_r (l : List Lease_T) (c : dcC) (i : Int) : Option (St ⊕ Ex × St) :=
 bK (decide (i < (↑(mW l).length : Int)))
 (bK (decide (0 ≤ i ∧ i < (↑(mW l).length : Int)))
 (oK (ldRow Wait_tfs (mW l) (0 + i.toNat) 0) fun (d0 : Int × Int × Int × Int) => oK (dcP.dec [AV.agg [i6 d0.1, i6 d0.2.1, i6 d0.2.2.1, i6 d0.2.2.2], pt 1000000, pt 1000001] [(bx [i6 c.1]), (bx [i6 c.2])]) fun (d1 : (Int × Int × Int × Int) × Int × Int) => bK (dcQ d1) (some (.inr (.ret, (sf [(4, i6 i)] [(1000001, (bx [i6 d1.2.1])), (1000002, (bx [i6 d1.2.2])), (1000000, (rw4 l))])))) (some (.inl (sf [(0, .sref 1000000 0 0 (mW l).length), (1, .fn 45 [] [pt 1000001, pt 1000002]), (7, i6 (↑(mW l).length : Int)), (8, i6 (IntKind.i64.wrap (i + 1)))] [(1000001, (bx [i6 d1.2.1])), (1000002, (bx [i6 d1.2.2])), (1000000, (rw4 l))])))) none)
 (some (.inr (.exit 0, (sf [] [(1000001, (bx [i6 c.1])), (1000002, (bx [i6 c.2])), (1000000, (rw4 l))]))))
theorem dci1_w (l : List Lease_T) (c : dcC) (i : Int) : dci1 l c i = dci1_r l c i := by kernel_rfl

def dciy (l : List Lease_T) (c : dcC) (k : Int) : Ex × St := if 0 ≤ k then (.ret, { fr := [(4, .int .i64 k)], bs := dcbs true l c, df := [] }) else (.exit 0, { fr := [], bs := dcbs true l c, df := [] })
theorem dci0_e (l : List Lease_T) (c : dcC) (i : Nat) (hi : i < l.length) (hl : l.length ≤ 100000) : dci0 l c i = if dcQ (l[i], c) = true then some (.inr (dciy l c i)) else some (.inl (dcih true l c ((i + 1 : Nat) : Int))) := by
 refine (dci0_w l c i).trans ?_
 unfold dci0_r
 refine bK_tq (Q := (· = _)) (by simp; omega) (bK_tq (Q := (· = _)) (by simp; omega) ?_)
 refine oK_q (Q := (· = _)) (a := l[i]) (by rw [Nat.zero_add, Int.toNat_natCast, ldRow_map (fs := Lease_tfs) rfl l (0, 0, 0, 0) hi, getD_at hi]) ?_
 refine oK_pkq (Q := (· = _)) dcA_inj (l[i], c) trivial ?_
 rw [w64 (by omega) (by omega)]
 cases hq : dcQ (l[i], c) with
 | true => rw [if_pos rfl]; unfold dciy; rw [if_pos (by omega)]; rfl
 | false => rfl
theorem dci1_e (l : List Lease_T) (c : dcC) (i : Nat) (hi : i < l.length) (hl : l.length ≤ 100000) : dci1 l c i = if dcQ (l[i], c) = true then some (.inr (dciy l c i)) else some (.inl (dcih true l c ((i + 1 : Nat) : Int))) := by
 refine (dci1_w l c i).trans ?_
 unfold dci1_r
 refine bK_tq (Q := (· = _)) (by simp; omega) (bK_tq (Q := (· = _)) (by simp; omega) ?_)
 refine oK_q (Q := (· = _)) (a := l[i]) (by rw [Nat.zero_add, Int.toNat_natCast, ldRow_map (fs := Lease_tfs) rfl l (0, 0, 0, 0) hi, getD_at hi]) ?_
 refine oK_pkq (Q := (· = _)) dcA_inj (l[i], c) trivial ?_
 rw [w64 (by omega) (by omega)]
 cases hq : dcQ (l[i], c) with
 | true => rw [if_pos rfl]; unfold dciy; rw [if_pos (by omega)]; rfl
 | false => rfl
theorem dcil : (loopsOf 0 (codeOf Try.prog 57)).map (·.1) = [0] := by kernel_rfl
theorem dcio : OneLoops Try.prog 57 := by unfold OneLoops; rw [dcil]; decide
theorem dcia : At 0 (codeOf Try.prog 57) 0 (.loop (bodyAt Try.prog 57 0)) := at_body dcio (by rw [dcil]; decide)
theorem dcir (l : List Lease_T) (c : dcC) (hl : l.length ≤ 100000) : ∀ (j i : Nat), i + j = l.length → ∀ (m : Nat), j < m → Runs' Try.prog cfg dc1 57 0 m (dcih true l c i) (dciy l c (firstN (fun w => dcQ (w, c)) (l.drop i) i))
 | 0, i, hi, m + 1, hm => by
  rw [List.drop_of_length_le (by omega)]
  refine Runs'.done (lp := LP0) LPok.none dcia ((dci1_w l c i).trans ?_)
  unfold dci1_r
  rw [bK_neg (by simp; omega)]
  rfl
 | j + 1, i, hi, m + 1, hm => by
  have hi' : i < l.length := by omega
  have e : l.drop i = l[i] :: l.drop (i + 1) := List.drop_eq_getElem_cons hi'
  have hs := dci1_e l c i hi' hl
  rw [e]
  unfold firstN
  cases hq : dcQ (l[i], c) with
  | true =>
   rw [hq, if_pos rfl] at hs
   rw [if_pos rfl]
   exact Runs'.done (lp := LP0) LPok.none dcia hs
  | false =>
   rw [hq, if_neg (by simp)] at hs
   rw [if_neg (by simp)]
   exact Runs'.step (lp := LP0) LPok.none dcia hs (dcir l c hl j (i + 1) (by omega) m (by omega))
def dciF (d : List Lease_T × dcC) : Int := firstN (fun w => dcQ (w, d.2)) d.1 0
def dciH (d : List Lease_T × dcC) : St := dcih false d.1 d.2 0
theorem dciH_inj (d d' : List Lease_T × dcC) (h : dciH d = dciH d') : d = d' := by
 obtain ⟨l, c⟩ := d
 obtain ⟨l', c'⟩ := d'
 simp only [dciH, dcih, dcbs, dcRow, boxB, Bool.false_eq_true, if_false, St.mk.injEq, List.cons.injEq, Prod.mk.injEq, Blk.mk.injEq, AV.int.injEq, and_true, true_and] at h
 refine Prod.ext (map_inj (fs := Lease_tfs) rfl h.2.1) ?_
 simp only [Prod.ext_iff]; simpa using h.2.2
noncomputable def dciL : LP := LP.of dciH (fun d => 1 ≤ d.1.length ∧ d.1.length ≤ 100000) fun d => .ite (decide (0 ≤ dciF d)) (.leaf (.ret, { fr := [(4, .int .i64 (dciF d))], bs := dcbs true d.1 d.2, df := [] })) (.leaf (.exit 0, { fr := [], bs := dcbs true d.1 d.2, df := [] }))
noncomputable def dciLP : LPs := LPs.add LP0 57 0 dciL
theorem dciLP_ok : LPok Try.prog cfg dc1 dciLP 57 := LPok.addH LPok.none dcio (by
 rintro ⟨l, c⟩ ⟨h1, h2⟩
 simp only at h1 h2
 have key : Runs' Try.prog cfg dc1 57 0 rounds (dciH (l, c)) (dciy l c (dciF (l, c))) := by
  have h0 : (0 : Nat) < l.length := h1
  have hs := dci0_e l c 0 h0 h2
  have e : l = l[0] :: l.drop 1 := by have := List.drop_eq_getElem_cons h0; simpa using this
  have ef : dciF (l, c) = if dcQ (l[0], c) = true then 0 else firstN (fun w => dcQ (w, c)) (l.drop 1) 1 := by
   show firstN (fun w => dcQ (w, c)) l 0 = _
   conv => lhs; rw [e]
   rfl
  rw [ef]
  cases hq : dcQ (l[0], c) with
  | true =>
   rw [hq, if_pos rfl] at hs
   rw [if_pos rfl]
   exact Runs'.done (lp := LP0) (k := rounds - 1) LPok.none dcia hs
  | false =>
   rw [hq, if_neg (by simp)] at hs
   rw [if_neg (by simp)]
   exact Runs'.step (lp := LP0) (k := rounds - 1) LPok.none dcia hs (dcir l c h2 (l.length - 1) 1 (by omega) (rounds - 1) (by simp only [rounds]; omega))
 unfold dciy at key
 simp only [Alt.val]
 by_cases hq : 0 ≤ dciF (l, c)
 ·rw [if_pos hq] at key; rw [decide_eq_true hq]; exact key
 ·rw [if_neg hq] at key; rw [decide_eq_false hq]; exact key)
noncomputable def dciu (l : List Lease_T) (c : dcC) : Option Ret := unitQ Try.prog cfg dc1 dciLP true 57 (dcDA (l, c)).1 (dcDA (l, c)).2
noncomputable def dciu_r (l : List Lease_T) (c : dcC) : Option Ret :=
 bK (decide (0 + (mW l).length ≤ (mW l).length)) (oK (dciL.dec (sf [(0, .sref 1000000 0 0 (mW l).length), (1, .fn 45 [] [pt 1000001, pt 1000002]), (7, i6 (↑(mW l).length : Int)), (8, i6 0)] [(1000000, (rw4 l)), (1000001, (bx [i6 c.1])), (1000002, (bx [i6 c.2]))])) fun (d0 : List Wait_T × Int × Int) => bK (decide (0 ≤ dciF d0)) (some { pan := false, res := i6 (dciF d0), out := [(rw4 d0.1), (bx [i6 d0.2.1]), (bx [i6 d0.2.2])], new := [] }) (some { pan := false, res := i6 (-1), out := [(rw4 d0.1), (bx [i6 d0.2.1]), (bx [i6 d0.2.2])], new := [] })) none
theorem dciu_w (l : List Lease_T) (c : dcC) : dciu l c = dciu_r l c := by kernel_rfl

noncomputable def dciP : PK := PK.of dcDA (fun d => 1 ≤ d.1.length ∧ d.1.length ≤ 100000) fun d => .leaf { pan := false, res := .int .i64 (dciF d), out := dcRow d.1 :: dcB d.2, new := [] }
noncomputable def dc2 : PKs := dc1.add 57 dciP
theorem dc2_ok : PKsOk Try.prog dc2 := PKsOk.any dc1_ok 57 dcDA _ _ (by
 rintro ⟨l, c⟩ ⟨h1, h2⟩
 refine CallOk.unit (fnOk dc1_ok 21) rfl dciLP_ok.loops (o := true) (by show 3 ≤ 1000; decide) ((dciu_w l c).trans ?_)
 unfold dciu_r
 refine bK_tq (Q := (· = _)) (by simp) ?_
 refine oK_lpq (Q := (· = _)) dciH_inj (l, c) ⟨h1, h2⟩ ?_
 refine bK_i (fun _ => rfl) (fun hn => ?_)
 have e : dciF (l, c) = -1 := by
  rcases firstN_lt (fun w => dcQ (w, c)) l with h | h
  ·exact h
  ·exact absurd h.1 hn
 simp only [Alt.val, e]
 rfl)
def dcdh (q : Bool) (l : List Lease_T) (c : dcC) (i j : Int) : St := { fr := [(0, .sref 1000000 0 0 (l.map (mkV true Lease_tfs)).length), (1, .fn 45 [] [AV.ptr 1000001 0 0 0, AV.ptr 1000002 0 0 0]), (5, .int .i64 i), (6, .int .i64 j)], bs := dcbs q l c, df := [] }
noncomputable def dcd0 (l : List Lease_T) (c : dcC) (i j : Int) : Option (St ⊕ (Ex × St)) := stepK Try.prog cfg dc2 LP0 43 0 (dcdh false l c i j)
noncomputable def dcd0_r (l : List Lease_T) (c : dcC) (i : Int) (j : Int) : Option (St ⊕ Ex × St) :=
 bK (decide (0 + (mW l).length ≤ (mW l).length))
 (bK (decide (j < (↑(mW l).length : Int)))
 (bK (decide (0 ≤ j ∧ j < (↑(mW l).length : Int)))
 (oK (ldRow Wait_tfs (mW l) (0 + j.toNat) 0) fun (d0 : Int × Int × Int × Int) =>
 oK (dcP.dec [AV.agg [i6 d0.1, i6 d0.2.1, i6 d0.2.2.1, i6 d0.2.2.2], pt 1000000, pt 1000001] [(bx [i6 c.1]), (bx [i6 c.2])]) fun (d1 : (Int × Int × Int × Int) × Int × Int) =>
 bK (!dcQ d1) (bK (decide (0 ≤ i ∧ i < (↑(mW l).length : Int))) (oK (stRow (mW l) (0 + i.toNat) 0 [i6 d0.1, i6 d0.2.1, i6 d0.2.2.1, i6 d0.2.2.2]) fun (d2 : List AV) => some (.inl (sf [(0, .sref 1000000 0 0 (mW l).length), (1, .fn 45 [] [pt 1000001, pt 1000002]), (5, i6 (IntKind.i64.wrap (i + 1))), (6, i6 (IntKind.i64.wrap (j + 1)))] [(1000000, { v := 0, k := .row, fz := false, sz := 4, es := d2 }), (1000001, (bx [i6 d1.2.1])), (1000002, (bx [i6 d1.2.2]))]))) none) (some (.inl (sf [(0, .sref 1000000 0 0 (mW l).length), (1, .fn 45 [] [pt 1000001, pt 1000002]), (5, i6 i), (6, i6 (IntKind.i64.wrap (j + 1)))] [(1000001, (bx [i6 d1.2.1])), (1000002, (bx [i6 d1.2.2])), (1000000, (rw4 l))]))))
 none)
 (some (.inr (.exit 0, (sf [(0, .sref 1000000 0 0 (mW l).length), (5, i6 i)] [(1000000, (rw4 l)), (1000001, (bx [i6 c.1])), (1000002, (bx [i6 c.2]))])))))
 none
theorem dcd0_w (l : List Lease_T) (c : dcC) (i : Int) (j : Int) : dcd0 l c i j = dcd0_r l c i j := by kernel_rfl

noncomputable def dcd1 (l : List Lease_T) (c : dcC) (i j : Int) : Option (St ⊕ (Ex × St)) := stepK Try.prog cfg dc2 LP0 43 0 (dcdh true l c i j)
noncomputable def dcd1_r (l : List Lease_T) (c : dcC) (i : Int) (j : Int) : Option (St ⊕ Ex × St) :=
 bK (decide (0 + (mW l).length ≤ (mW l).length))
 (bK (decide (j < (↑(mW l).length : Int)))
 (bK (decide (0 ≤ j ∧ j < (↑(mW l).length : Int)))
 (oK (ldRow Wait_tfs (mW l) (0 + j.toNat) 0) fun (d0 : Int × Int × Int × Int) =>
 oK (dcP.dec [AV.agg [i6 d0.1, i6 d0.2.1, i6 d0.2.2.1, i6 d0.2.2.2], pt 1000000, pt 1000001] [(bx [i6 c.1]), (bx [i6 c.2])]) fun (d1 : (Int × Int × Int × Int) × Int × Int) =>
 bK (!dcQ d1) (bK (decide (0 ≤ i ∧ i < (↑(mW l).length : Int))) (oK (stRow (mW l) (0 + i.toNat) 0 [i6 d0.1, i6 d0.2.1, i6 d0.2.2.1, i6 d0.2.2.2]) fun (d2 : List AV) => some (.inl (sf [(0, .sref 1000000 0 0 (mW l).length), (1, .fn 45 [] [pt 1000001, pt 1000002]), (5, i6 (IntKind.i64.wrap (i + 1))), (6, i6 (IntKind.i64.wrap (j + 1)))] [(1000000, { v := 0, k := .row, fz := false, sz := 4, es := d2 }), (1000001, (bx [i6 d1.2.1])), (1000002, (bx [i6 d1.2.2]))]))) none) (some (.inl (sf [(0, .sref 1000000 0 0 (mW l).length), (1, .fn 45 [] [pt 1000001, pt 1000002]), (5, i6 i), (6, i6 (IntKind.i64.wrap (j + 1)))] [(1000001, (bx [i6 d1.2.1])), (1000002, (bx [i6 d1.2.2])), (1000000, (rw4 l))]))))
 none)
 (some (.inr (.exit 0, (sf [(0, .sref 1000000 0 0 (mW l).length), (5, i6 i)] [(1000001, (bx [i6 c.1])), (1000002, (bx [i6 c.2])), (1000000, (rw4 l))])))))
 none
theorem dcd1_w (l : List Lease_T) (c : dcC) (i : Int) (j : Int) : dcd1 l c i j = dcd1_r l c i j := by kernel_rfl

def dcdx (q : Bool) (l : List Lease_T) (c : dcC) (i : Int) : Ex × St := (.exit 0, { fr := [(0, .sref 1000000 0 0 (l.map (mkV true Lease_tfs)).length), (5, .int .i64 i)], bs := dcbs q l c, df := [] })
theorem dcdhs (q : Bool) (l : List Lease_T) (x : Lease_T) (n : Nat) (c : dcC) (i j : Int) : dcdh q (l.set n x) c i j = { fr := [(0, .sref 1000000 0 0 (l.map (mkV true Lease_tfs)).length), (1, .fn 45 [] [AV.ptr 1000001 0 0 0, AV.ptr 1000002 0 0 0]), (5, .int .i64 i), (6, .int .i64 j)], bs := dcbs q (l.set n x) c, df := [] } := by
 unfold dcdh
 rw [show ((l.set n x).map (mkV true Lease_tfs)).length = (l.map (mkV true Lease_tfs)).length by simp]
theorem dcd0_e (l : List Lease_T) (c : dcC) (i j : Nat) (hj : j < l.length) (hi : i ≤ j) (hl : l.length ≤ 100000) : dcd0 l c i j = if dcQ (l[j], c) = true then some (.inl (dcdh true l c i ((j + 1 : Nat) : Int))) else some (.inl (dcdh false (l.set i l[j]) c ((i + 1 : Nat) : Int) ((j + 1 : Nat) : Int))) := by
 refine (dcd0_w l c i j).trans ?_
 unfold dcd0_r
 refine bK_tq (Q := (· = _)) (by simp) (bK_tq (Q := (· = _)) (by simp; omega) (bK_tq (Q := (· = _)) (by simp; omega) ?_))
 refine oK_q (Q := (· = _)) (a := l[j]) (by rw [Nat.zero_add, Int.toNat_natCast, ldRow_map (fs := Lease_tfs) rfl l (0, 0, 0, 0) hj, getD_at hj]) ?_
 refine oK_pkq (Q := (· = _)) dcA_inj (l[j], c) trivial ?_
 rw [w64 (by omega) (by omega), w64 (by omega) (by omega)]
 cases hq : dcQ (l[j], c) with
 | true => rfl
 | false =>
  rw [if_neg (by simp), dcdhs]
  refine bK_tq (Q := (· = _)) rfl (bK_tq (Q := (· = _)) (by simp; omega) ?_)
  exact oK_q (Q := (· = _)) (a := (l.set i l[j]).map (mkV true Lease_tfs)) (by rw [Nat.zero_add, Int.toNat_natCast]; exact stRow_map (fs := Lease_tfs) l i (by omega) l[j]) rfl
theorem dcd1_e (l : List Lease_T) (c : dcC) (i j : Nat) (hj : j < l.length) (hi : i ≤ j) (hl : l.length ≤ 100000) : dcd1 l c i j = if dcQ (l[j], c) = true then some (.inl (dcdh true l c i ((j + 1 : Nat) : Int))) else some (.inl (dcdh false (l.set i l[j]) c ((i + 1 : Nat) : Int) ((j + 1 : Nat) : Int))) := by
 refine (dcd1_w l c i j).trans ?_
 unfold dcd1_r
 refine bK_tq (Q := (· = _)) (by simp) (bK_tq (Q := (· = _)) (by simp; omega) (bK_tq (Q := (· = _)) (by simp; omega) ?_))
 refine oK_q (Q := (· = _)) (a := l[j]) (by rw [Nat.zero_add, Int.toNat_natCast, ldRow_map (fs := Lease_tfs) rfl l (0, 0, 0, 0) hj, getD_at hj]) ?_
 refine oK_pkq (Q := (· = _)) dcA_inj (l[j], c) trivial ?_
 rw [w64 (by omega) (by omega), w64 (by omega) (by omega)]
 cases hq : dcQ (l[j], c) with
 | true => rfl
 | false =>
  rw [if_neg (by simp), dcdhs]
  refine bK_tq (Q := (· = _)) rfl (bK_tq (Q := (· = _)) (by simp; omega) ?_)
  exact oK_q (Q := (· = _)) (a := (l.set i l[j]).map (mkV true Lease_tfs)) (by rw [Nat.zero_add, Int.toNat_natCast]; exact stRow_map (fs := Lease_tfs) l i (by omega) l[j]) rfl
theorem dcdl : (loopsOf 0 (codeOf Try.prog 43)).map (·.1) = [0] := by kernel_rfl
theorem dcdo : OneLoops Try.prog 43 := by unfold OneLoops; rw [dcdl]; decide
theorem dcda : At 0 (codeOf Try.prog 43) 0 (.loop (bodyAt Try.prog 43 0)) := at_body dcdo (by rw [dcdl]; decide)
def dclq (c : dcC) : Nat → Bool → List Lease_T → Nat → Nat → Bool
 | 0, q, _, _, _ => q
 | k + 1, q, B, i, j => match B[j]? with
  | none => q
  | some v => if dcQ (v, c) = true then dclq c k true B i (j + 1) else dclq c k false (B.set i v) (i + 1) (j + 1)
theorem dcdr (c : dcC) : ∀ (k : Nat) (q : Bool) (B : List Lease_T) (i j : Nat), i ≤ j → j + k = B.length → B.length ≤ 100000 → ∀ (m : Nat), k < m →
  Runs' Try.prog cfg dc2 43 0 m (dcdh q B c i j) (dcdx (dclq c k q B i j) (delN (fun w => dcQ (w, c)) k B i j).1 c ((delN (fun w => dcQ (w, c)) k B i j).2 : Int))
 | 0, q, B, i, j, hij, hl, hb, m + 1, hm => by
  cases q with
  | false =>
   refine Runs'.done (lp := LP0) LPok.none dcda ((dcd0_w B c i j).trans ?_)
   unfold dcd0_r
   rw [bK_pos (by simp), bK_neg (by simp; omega)]
   rfl
  | true =>
   refine Runs'.done (lp := LP0) LPok.none dcda ((dcd1_w B c i j).trans ?_)
   unfold dcd1_r
   rw [bK_pos (by simp), bK_neg (by simp; omega)]
   rfl
 | k + 1, q, B, i, j, hij, hl, hb, m + 1, hm => by
  have hj : j < B.length := by omega
  have hs : (if q then dcd1 else dcd0) B c i j = if dcQ (B[j], c) = true then some (.inl (dcdh true B c i ((j + 1 : Nat) : Int))) else some (.inl (dcdh false (B.set i B[j]) c ((i + 1 : Nat) : Int) ((j + 1 : Nat) : Int))) := by
   cases q with
   | true => exact dcd1_e B c i j hj hij hb
   | false => exact dcd0_e B c i j hj hij hb
  have hs' : ∀ r, (if q then dcd1 else dcd0) B c i j = r → stepK Try.prog cfg dc2 LP0 43 0 (dcdh q B c i j) = r := by
   intro r hr
   cases q with
   | true => exact hr
   | false => exact hr
  unfold dclq delN
  rw [List.getElem?_eq_getElem hj]
  simp only
  cases hq : dcQ (B[j], c) with
  | true =>
   rw [hq, if_pos rfl] at hs
   simp only [if_true]
   exact Runs'.step (lp := LP0) LPok.none dcda (hs' _ hs) (dcdr c k true B i (j + 1) (by omega) (by omega) hb m (by omega))
  | false =>
   rw [hq] at hs
   rw [if_neg (show ¬ (false = true) by simp)] at hs
   simp only [Bool.false_eq_true, if_false]
   exact Runs'.step (lp := LP0) LPok.none dcda (hs' _ hs) (dcdr c k false (B.set i B[j]) (i + 1) (j + 1) (by omega) (by simp; omega) (by simpa using hb) m (by omega))
abbrev dcdD : Type := List Lease_T × dcC × Int × Int
def dcdq (d : dcdD) : Bool := dclq d.2.1 (d.1.length - d.2.2.2.toNat) false d.1 d.2.2.1.toNat d.2.2.2.toNat
def dcdw (d : dcdD) : List Lease_T := (delN (fun w => dcQ (w, d.2.1)) (d.1.length - d.2.2.2.toNat) d.1 d.2.2.1.toNat d.2.2.2.toNat).1
def dcdn (d : dcdD) : Int := ((delN (fun w => dcQ (w, d.2.1)) (d.1.length - d.2.2.2.toNat) d.1 d.2.2.1.toNat d.2.2.2.toNat).2 : Int)
def dcdH (d : dcdD) : St := dcdh false d.1 d.2.1 d.2.2.1 d.2.2.2
theorem dcdH_inj (d d' : dcdD) (h : dcdH d = dcdH d') : d = d' := by
 obtain ⟨l, c, i, j⟩ := d
 obtain ⟨l', c', i', j'⟩ := d'
 simp only [dcdH, dcdh, dcbs, dcRow, boxB, Bool.false_eq_true, if_false, St.mk.injEq, List.cons.injEq, Prod.mk.injEq, Blk.mk.injEq, AV.int.injEq, and_true, true_and] at h
 obtain ⟨⟨h1, h2, h3⟩, h4, h5⟩ := h
 have e1 := map_inj (fs := Lease_tfs) rfl h4
 have e2 : c = c' := by simp only [Prod.ext_iff]; simpa using h5
 rw [e1, e2, h2, h3]
noncomputable def dcdL : LP := LP.of dcdH (fun d => 0 ≤ d.2.2.1 ∧ d.2.2.1 ≤ d.2.2.2 ∧ d.2.2.2 ≤ (d.1.length : Int) ∧ d.1.length ≤ 100000) fun d => .ite (dcdq d) (.leaf (.exit 0, { fr := [(0, .sref 1000000 0 0 ((dcdw d).map (mkV true Lease_tfs)).length), (5, .int .i64 (dcdn d))], bs := dcbs true (dcdw d) d.2.1, df := [] })) (.leaf (.exit 0, { fr := [(0, .sref 1000000 0 0 ((dcdw d).map (mkV true Lease_tfs)).length), (5, .int .i64 (dcdn d))], bs := dcbs false (dcdw d) d.2.1, df := [] }))
noncomputable def dcdLP : LPs := LPs.add LP0 43 0 dcdL
theorem dcdLP_ok : LPok Try.prog cfg dc2 dcdLP 43 := LPok.addH LPok.none dcdo (by
 rintro ⟨l, c, i, j⟩ ⟨h1, h2, h3, h4⟩
 simp only at h1 h2 h3 h4
 have hr := dcdr c (l.length - j.toNat) false l i.toNat j.toNat (by omega) (by omega) h4 rounds (by simp only [rounds]; omega)
 have e : (dcdh false l c (i.toNat : Int) (j.toNat : Int)) = dcdH (l, c, i, j) := by
  unfold dcdH
  rw [show (i.toNat : Int) = i by omega, show (j.toNat : Int) = j by omega]
 rw [e] at hr
 simp only [Alt.val]
 have eq1 : dcdq (l, c, i, j) = dclq c (l.length - j.toNat) false l i.toNat j.toNat := rfl
 have hr2 : Runs' Try.prog cfg dc2 43 0 rounds (dcdH (l, c, i, j)) (dcdx (dcdq (l, c, i, j)) (dcdw (l, c, i, j)) c (dcdn (l, c, i, j))) := hr
 cases hq : dcdq (l, c, i, j) with
 | true => rw [hq] at hr2; exact hr2
 | false => rw [hq] at hr2; exact hr2)
noncomputable def dcdu (l : List Lease_T) (c : dcC) : Option Ret := unitQ Try.prog cfg dc2 dcdLP true 43 (dcDA (l, c)).1 (dcDA (l, c)).2
noncomputable def dcdu_r (l : List Lease_T) (c : dcC) : Option Ret :=
 oK (dciP.dec [.sref 1000000 0 0 (mW l).length, .fn 45 [] [pt 1000001, pt 1000002]] [(rw4 l), (bx [i6 c.1]), (bx [i6 c.2])]) fun (d0 : List Wait_T × Int × Int) =>
 bK (decide (dciF d0 = -1)) (some { pan := false, res := .sref 1000000 0 0 (mW l).length, out := [(rw4 d0.1), (bx [i6 d0.2.1]), (bx [i6 d0.2.2])], new := [] })
 (oK (dcdL.dec (sf [(0, .sref 1000000 0 0 (mW l).length), (1, .fn 45 [] [pt 1000001, pt 1000002]), (5, i6 (dciF d0)), (6, i6 (IntKind.i64.wrap (dciF d0 + 1)))] [(1000000, (rw4 d0.1)), (1000001, (bx [i6 d0.2.1])), (1000002, (bx [i6 d0.2.2]))])) fun (d1 : List Wait_T × (Int × Int) × Int × Int) =>
 bK (dcdq d1)
 (bK (decide (0 ≤ dcdn d1))
 (bK (decide ((dcdn d1).toNat ≤ (mW (dcdw d1)).length ∧ 0 + (mW (dcdw d1)).length ≤ (mW (dcdw d1)).length))
 (bK (decide ((dcdn d1).toNat = 0 ∨ 0 + (dcdn d1).toNat < (mW (dcdw d1)).length))
 (bK (decide (0 + (dcdn d1).toNat + ((mW (dcdw d1)).length - (dcdn d1).toNat) ≤ (mW (dcdw d1)).length)) (bK (decide (0 ≤ dcdn d1)) (bK (decide (0 ≤ (dcdn d1).toNat ∧ 0 + (dcdn d1).toNat ≤ (List.take (0 + (dcdn d1).toNat) (mW (dcdw d1)) ++ (List.replicate ((mW (dcdw d1)).length - (dcdn d1).toNat) (AV.agg [i6 0, i6 0, i6 0, i6 0]) ++ List.drop (0 + (dcdn d1).toNat + ((mW (dcdw d1)).length - (dcdn d1).toNat)) (mW (dcdw d1)))).length)) (some { pan := false, res := .sref 1000000 0 0 ((dcdn d1).toNat - 0), out := [{ v := 0, k := .row, fz := false, sz := 4, es := List.take (0 + (dcdn d1).toNat) (mW (dcdw d1)) ++ (List.replicate ((mW (dcdw d1)).length - (dcdn d1).toNat) (AV.agg [i6 0, i6 0, i6 0, i6 0]) ++ List.drop (0 + (dcdn d1).toNat + ((mW (dcdw d1)).length - (dcdn d1).toNat)) (mW (dcdw d1))) }, (bx [i6 d1.2.1.1]), (bx [i6 d1.2.1.2])], new := [] }) none) none) none)
 (bK (decide (0 ≤ dcdn d1)) (bK (decide (0 ≤ (dcdn d1).toNat ∧ 0 + (dcdn d1).toNat ≤ (mW (dcdw d1)).length)) (some { pan := false, res := .sref 1000000 0 0 ((dcdn d1).toNat - 0), out := [(rw4 (dcdw d1)), (bx [i6 d1.2.1.1]), (bx [i6 d1.2.1.2])], new := [] }) none) none))
 none)
 none)
 (bK (decide (0 ≤ dcdn d1))
 (bK (decide ((dcdn d1).toNat ≤ (mW (dcdw d1)).length ∧ 0 + (mW (dcdw d1)).length ≤ (mW (dcdw d1)).length))
 (bK (decide ((dcdn d1).toNat = 0 ∨ 0 + (dcdn d1).toNat < (mW (dcdw d1)).length))
 (bK (decide (0 + (dcdn d1).toNat + ((mW (dcdw d1)).length - (dcdn d1).toNat) ≤ (mW (dcdw d1)).length)) (bK (decide (0 ≤ dcdn d1)) (bK (decide (0 ≤ (dcdn d1).toNat ∧ 0 + (dcdn d1).toNat ≤ (List.take (0 + (dcdn d1).toNat) (mW (dcdw d1)) ++ (List.replicate ((mW (dcdw d1)).length - (dcdn d1).toNat) (AV.agg [i6 0, i6 0, i6 0, i6 0]) ++ List.drop (0 + (dcdn d1).toNat + ((mW (dcdw d1)).length - (dcdn d1).toNat)) (mW (dcdw d1)))).length)) (some { pan := false, res := .sref 1000000 0 0 ((dcdn d1).toNat - 0), out := [{ v := 0, k := .row, fz := false, sz := 4, es := List.take (0 + (dcdn d1).toNat) (mW (dcdw d1)) ++ (List.replicate ((mW (dcdw d1)).length - (dcdn d1).toNat) (AV.agg [i6 0, i6 0, i6 0, i6 0]) ++ List.drop (0 + (dcdn d1).toNat + ((mW (dcdw d1)).length - (dcdn d1).toNat)) (mW (dcdw d1))) }, (bx [i6 d1.2.1.1]), (bx [i6 d1.2.1.2])], new := [] }) none) none) none)
 (bK (decide (0 ≤ dcdn d1)) (bK (decide (0 ≤ (dcdn d1).toNat ∧ 0 + (dcdn d1).toNat ≤ (mW (dcdw d1)).length)) (some { pan := false, res := .sref 1000000 0 0 ((dcdn d1).toNat - 0), out := [(rw4 (dcdw d1)), (bx [i6 d1.2.1.1]), (bx [i6 d1.2.1.2])], new := [] }) none) none))
 none)
 none))
theorem dcdu_w (l : List Lease_T) (c : dcC) : dcdu l c = dcdu_r l c := by kernel_rfl

def dckF (d : List Lease_T × dcC) : List Lease_T := d.1.filter fun w => !dcQ (w, d.2)
def dckZ (d : List Lease_T × dcC) : List Lease_T := keepZ (fun w => dcQ (w, d.2)) (0, 0, 0, 0) d.1
noncomputable def dcdP : PK := PK.of dcDA (fun d => 1 ≤ d.1.length ∧ d.1.length ≤ 100000) fun d => .leaf { pan := false, res := .sref outBase 0 0 (dckF d).length, out := dcRow (dckZ d) :: dcB d.2, new := [] }
theorem dcdO (d : List Lease_T × dcC) (h : 1 ≤ d.1.length ∧ d.1.length ≤ 100000) : CallOk Try.prog 43 (dcDA d).1 (dcDA d).2 { pan := false, res := .sref outBase 0 0 (dckF d).length, out := dcRow (dckZ d) :: dcB d.2, new := [] } := by
 obtain ⟨l, c⟩ := d
 obtain ⟨h1, h2⟩ := h
 simp only at h1 h2
 refine CallOk.unit (fnOk dc2_ok 21) rfl dcdLP_ok.loops (o := true) (by show 3 ≤ 1000; decide) ((dcdu_w l c).trans ?_)
 unfold dcdu_r
 refine oK_pkq (Q := (· = _)) dcDA_inj (l, c) ⟨h1, h2⟩ ?_
 have hF : dciF (l, c) = firstN (fun w => dcQ (w, c)) l 0 := rfl
 have hk : dckF (l, c) = l.filter fun w => !dcQ (w, c) := rfl
 rcases firstN_ge (fun w => dcQ (w, c)) l 0 (by omega) with ⟨e1, e2⟩ | ⟨n, hn, e1, e2, e3⟩
 ·obtain ⟨k1, k2⟩ := keepZ_none (z := ((0, 0, 0, 0) : Lease_T)) e2
  have hz : dckZ (l, c) = l := k1
  rw [bK_pos (by rw [hF, e1]; rfl), hz, hk, k2, List.length_map]
  rfl
 ·rw [hF, e1, Int.zero_add]
  rw [bK_neg (decide_eq_false (by omega)), w64 (by omega) (by omega)]
  refine oK_lpq (Q := (· = _)) dcdH_inj (l, c, (n : Int), (n : Int) + 1) ⟨by show (0 : Int) ≤ (n : Int); omega, by show (n : Int) ≤ (n : Int) + 1; omega, by show (n : Int) + 1 ≤ (l.length : Int); omega, h2⟩ ?_
  obtain ⟨d1, d2, d3⟩ := delN_spec (fun w => dcQ (w, c)) (l.length - (n + 1)) l n (n + 1) (by omega) (by omega)
  have hf := filter_take_none (p := fun w => dcQ (w, c)) hn e2 e3
  rw [← hf] at d3
  have hw : dcdw (l, c, (n : Int), (n : Int) + 1) = (delN (fun w => dcQ (w, c)) (l.length - (n + 1)) l n (n + 1)).1 := by
   unfold dcdw
   simp only
   rw [show ((n : Int) + 1).toNat = n + 1 by omega, Int.toNat_natCast]
  have hn' : dcdn (l, c, (n : Int), (n : Int) + 1) = ((delN (fun w => dcQ (w, c)) (l.length - (n + 1)) l n (n + 1)).2 : Int) := by
   unfold dcdn
   simp only
   rw [show ((n : Int) + 1).toNat = n + 1 by omega, Int.toNat_natCast]
  have hle := List.length_filter_le (fun a => !dcQ (a, c)) (l.drop (n + 1))
  rw [List.length_drop] at hle
  generalize delN (fun w => dcQ (w, c)) (l.length - (n + 1)) l n (n + 1) = y at d1 d2 d3 hw hn'
  obtain ⟨W, m⟩ := y
  simp only at d1 d2 d3 hw hn'
  rw [hw, hn', Int.toNat_natCast]
  have hm : m = (l.filter fun w => !dcQ (w, c)).length := by rw [← d3, List.length_take]; omega
  have hes := clear_eq (mkV true Lease_tfs) W _ m (0, 0, 0, 0) d3 hm
  have hz : dckZ (l, c) = (l.filter fun w => !dcQ (w, c)) ++ List.replicate (W.length - (l.filter fun w => !dcQ (w, c)).length) (0, 0, 0, 0) := by rw [d1]; rfl
  refine bK_bq (Q := (· = _)) (fun _ => ?_) (fun _ => ?_)
  ·refine bK_tq (Q := (· = _)) (decide_eq_true (by omega)) (bK_tq (Q := (· = _)) (decide_eq_true (by simp; omega)) (bK_tq (Q := (· = _)) (decide_eq_true (by simp; omega)) (bK_tq (Q := (· = _)) (decide_eq_true (by simp; omega)) (bK_tq (Q := (· = _)) (decide_eq_true (by omega)) ?_))))
   refine bK_tq (Q := (· = _)) (decide_eq_true (by simp; omega)) ?_
   rw [hk, ← hm]
   unfold dcRow
   rw [hz, ← hes]
   rfl
  ·refine bK_tq (Q := (· = _)) (decide_eq_true (by omega)) (bK_tq (Q := (· = _)) (decide_eq_true (by simp; omega)) (bK_tq (Q := (· = _)) (decide_eq_true (by simp; omega)) (bK_tq (Q := (· = _)) (decide_eq_true (by simp; omega)) (bK_tq (Q := (· = _)) (decide_eq_true (by omega)) ?_))))
   refine bK_tq (Q := (· = _)) (decide_eq_true (by simp; omega)) ?_
   rw [hk, ← hm]
   unfold dcRow
   rw [hz, ← hes]
   rfl

end Go.Proofs.Ytkanmigbbpppnaa
