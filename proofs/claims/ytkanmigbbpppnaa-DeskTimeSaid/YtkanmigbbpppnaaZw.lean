/- A part of the proof: contracts of functions. -/
import Derived.Test.YtkanmigbbpppnaaP
import Derived.Test.YtkanmigbbpppnaaAbAny

set_option linter.unusedVariables false
set_option linter.unusedSimpArgs false
set_option maxRecDepth 100000
namespace Go.Proofs.Ytkanmigbbpppnaa
open Go Go.Ab
abbrev dcCw : Type := Int
abbrev dcDw : Type := Wait_T × dcCw
def dcBw (c : dcCw) : List Blk := [boxB [.int .i64 c]]
def dcAw (d : dcDw) : List AV × List Blk := (.agg (Tu.mk Wait_tfs d.1) :: [.ptr (outBase + 0) 0 0 0], dcBw d.2)
noncomputable def dccuw (w : Wait_T) (c : dcCw) : Option Ret := unitQ Try.prog cfg PKz LP0 false 63 (dcAw (w, c)).1 (dcAw (w, c)).2
noncomputable def dccuw_r (w : Wait_T) (c : dcCw) : Option Ret :=
 some { pan := false, res := .bool (decide (w.1 = c)), out := [(bx [i6 c])], new := [] }
theorem dccuw_w (w : Wait_T) (c : dcCw) : dccuw w c = dccuw_r w c := by kernel_rfl

def dcQw (d : dcDw) : Bool := decide (d.1.1 = d.2)
noncomputable def dcPw : PK := PK.of dcAw (fun _ => True) fun d => .leaf { pan := false, res := .bool (dcQw d), out := dcBw d.2, new := [] }
noncomputable def dc1w : PKs := PKz.add 63 dcPw
theorem dc1_okw : PKsOk Try.prog dc1w := PKsOk.any PKz_ok 63 dcAw _ _ fun d _ => CallOk.unit (fnOk PKz_ok 21) rfl fLoops_none (by show 1 ≤ 1000; decide) (by exact dccuw_w d.1 d.2)
theorem dcA_injw (d d' : dcDw) (h : dcAw d = dcAw d') : d = d' := by
 obtain ⟨w, c⟩ := d
 obtain ⟨w', c'⟩ := d'
 simp only [dcAw, dcBw, boxB, List.cons.injEq, Prod.mk.injEq, AV.agg.injEq, Blk.mk.injEq, AV.int.injEq, and_true, true_and] at h
 refine Prod.ext (mk_inj (fs := Wait_tfs) rfl h.1) ?_
 exact h.2
def dcRoww (l : List Wait_T) : Blk := { v := 0, k := .row, fz := false, sz := 4, es := l.map (mkV true Wait_tfs) }
def dcDAw (d : List Wait_T × dcCw) : List AV × List Blk := ([.sref outBase 0 0 (d.1.map (mkV true Wait_tfs)).length, .fn 63 [] [.ptr (outBase + 1) 0 0 0]], dcRoww d.1 :: dcBw d.2)
theorem dcDA_injw (d d' : List Wait_T × dcCw) (h : dcDAw d = dcDAw d') : d = d' := by
 obtain ⟨l, c⟩ := d
 obtain ⟨l', c'⟩ := d'
 simp only [dcDAw, dcRoww, dcBw, boxB, List.cons.injEq, Prod.mk.injEq, Blk.mk.injEq, AV.int.injEq, and_true, true_and] at h
 refine Prod.ext (map_inj (fs := Wait_tfs) rfl h.2.1) ?_
 exact h.2.2
def dcbsw (q : Bool) (l : List Wait_T) (c : dcCw) : List (Nat × Blk) := if q then [(1000001, boxB [.int .i64 c]), (1000000, dcRoww l)] else [(1000000, dcRoww l), (1000001, boxB [.int .i64 c])]
def dcihw (q : Bool) (l : List Wait_T) (c : dcCw) (i : Int) : St := { fr := [(0, .sref 1000000 0 0 (l.map (mkV true Wait_tfs)).length), (1, .fn 63 [] [AV.ptr 1000001 0 0 0]), (7, .int .i64 (((l.map (mkV true Wait_tfs)).length : Nat) : Int)), (8, .int .i64 i)], bs := dcbsw q l c, df := [] }
noncomputable def dci0w (l : List Wait_T) (c : dcCw) (i : Int) : Option (St ⊕ (Ex × St)) := stepK Try.prog cfg dc1w LP0 30 0 (dcihw false l c i)
noncomputable def dci0w_r (l : List Wait_T) (c : dcCw) (i : Int) : Option (St ⊕ Ex × St) :=
 bK (decide (i < (↑(mW l).length : Int))) (bK (decide (0 ≤ i ∧ i < (↑(mW l).length : Int))) (oK (ldRow Wait_tfs (mW l) (0 + i.toNat) 0) fun (d0 : Int × Int × Int × Int) => oK (dcPw.dec [AV.agg [i6 d0.1, i6 d0.2.1, i6 d0.2.2.1, i6 d0.2.2.2], pt 1000000] [(bx [i6 c])]) fun (d1 : (Int × Int × Int × Int) × Int) => bK (dcQw d1) (some (.inr (.ret, (sf [(4, i6 i)] [(1000001, (bx [i6 d1.2])), (1000000, (rw4 l))])))) (some (.inl (sf [(0, .sref 1000000 0 0 (mW l).length), (1, .fn 63 [] [pt 1000001]), (7, i6 (↑(mW l).length : Int)), (8, i6 (IntKind.i64.wrap (i + 1)))] [(1000001, (bx [i6 d1.2])), (1000000, (rw4 l))])))) none)
 (some (.inr (.exit 0, (sf [] [(1000000, (rw4 l)), (1000001, (bx [i6 c]))]))))
theorem dci0w_w (l : List Wait_T) (c : dcCw) (i : Int) : dci0w l c i = dci0w_r l c i := by kernel_rfl

noncomputable def dci1w (l : List Wait_T) (c : dcCw) (i : Int) : Option (St ⊕ (Ex × St)) := stepK Try.prog cfg dc1w LP0 30 0 (dcihw true l c i)
noncomputable def dci1w_r (l : List Wait_T) (c : dcCw) (i : Int) : Option (St ⊕ Ex × St) :=
 bK (decide (i < (↑(mW l).length : Int))) (bK (decide (0 ≤ i ∧ i < (↑(mW l).length : Int))) (oK (ldRow Wait_tfs (mW l) (0 + i.toNat) 0) fun (d0 : Int × Int × Int × Int) => oK (dcPw.dec [AV.agg [i6 d0.1, i6 d0.2.1, i6 d0.2.2.1, i6 d0.2.2.2], pt 1000000] [(bx [i6 c])]) fun (d1 : (Int × Int × Int × Int) × Int) => bK (dcQw d1) (some (.inr (.ret, (sf [(4, i6 i)] [(1000001, (bx [i6 d1.2])), (1000000, (rw4 l))])))) (some (.inl (sf [(0, .sref 1000000 0 0 (mW l).length), (1, .fn 63 [] [pt 1000001]), (7, i6 (↑(mW l).length : Int)), (8, i6 (IntKind.i64.wrap (i + 1)))] [(1000001, (bx [i6 d1.2])), (1000000, (rw4 l))])))) none)
 (some (.inr (.exit 0, (sf [] [(1000001, (bx [i6 c])), (1000000, (rw4 l))]))))
theorem dci1w_w (l : List Wait_T) (c : dcCw) (i : Int) : dci1w l c i = dci1w_r l c i := by kernel_rfl

def dciyw (l : List Wait_T) (c : dcCw) (k : Int) : Ex × St := if 0 ≤ k then (.ret, { fr := [(4, .int .i64 k)], bs := dcbsw true l c, df := [] }) else (.exit 0, { fr := [], bs := dcbsw true l c, df := [] })
theorem dci0_ew (l : List Wait_T) (c : dcCw) (i : Nat) (hi : i < l.length) (hl : l.length ≤ 100000) : dci0w l c i = if dcQw (l[i], c) = true then some (.inr (dciyw l c i)) else some (.inl (dcihw true l c ((i + 1 : Nat) : Int))) := by
 refine (dci0w_w l c i).trans ?_
 unfold dci0w_r
 refine bK_tq (Q := (· = _)) (by simp; omega) (bK_tq (Q := (· = _)) (by simp; omega) ?_)
 refine oK_q (Q := (· = _)) (a := l[i]) (by rw [Nat.zero_add, Int.toNat_natCast, ldRow_map (fs := Wait_tfs) rfl l (0, 0, 0, 0) hi, getD_at hi]) ?_
 refine oK_pkq (Q := (· = _)) dcA_injw (l[i], c) trivial ?_
 rw [w64 (by omega) (by omega)]
 cases hq : dcQw (l[i], c) with
 | true => rw [if_pos rfl]; unfold dciyw; rw [if_pos (by omega)]; rfl
 | false => rfl
theorem dci1_ew (l : List Wait_T) (c : dcCw) (i : Nat) (hi : i < l.length) (hl : l.length ≤ 100000) : dci1w l c i = if dcQw (l[i], c) = true then some (.inr (dciyw l c i)) else some (.inl (dcihw true l c ((i + 1 : Nat) : Int))) := by
 refine (dci1w_w l c i).trans ?_
 unfold dci1w_r
 refine bK_tq (Q := (· = _)) (by simp; omega) (bK_tq (Q := (· = _)) (by simp; omega) ?_)
 refine oK_q (Q := (· = _)) (a := l[i]) (by rw [Nat.zero_add, Int.toNat_natCast, ldRow_map (fs := Wait_tfs) rfl l (0, 0, 0, 0) hi, getD_at hi]) ?_
 refine oK_pkq (Q := (· = _)) dcA_injw (l[i], c) trivial ?_
 rw [w64 (by omega) (by omega)]
 cases hq : dcQw (l[i], c) with
 | true => rw [if_pos rfl]; unfold dciyw; rw [if_pos (by omega)]; rfl
 | false => rfl
theorem dcilw : (loopsOf 0 (codeOf Try.prog 30)).map (·.1) = [0] := by kernel_rfl
theorem dciow : OneLoops Try.prog 30 := by unfold OneLoops; rw [dcilw]; decide
theorem dciaw : At 0 (codeOf Try.prog 30) 0 (.loop (bodyAt Try.prog 30 0)) := at_body dciow (by rw [dcilw]; decide)
theorem dcirw (l : List Wait_T) (c : dcCw) (hl : l.length ≤ 100000) : ∀ (j i : Nat), i + j = l.length → ∀ (m : Nat), j < m → Runs' Try.prog cfg dc1w 30 0 m (dcihw true l c i) (dciyw l c (firstN (fun w => dcQw (w, c)) (l.drop i) i))
 | 0, i, hi, m + 1, hm => by
  rw [List.drop_of_length_le (by omega)]
  refine Runs'.done (lp := LP0) LPok.none dciaw ((dci1w_w l c i).trans ?_)
  unfold dci1w_r
  rw [bK_neg (by simp; omega)]
  rfl
 | j + 1, i, hi, m + 1, hm => by
  have hi' : i < l.length := by omega
  have e : l.drop i = l[i] :: l.drop (i + 1) := List.drop_eq_getElem_cons hi'
  have hs := dci1_ew l c i hi' hl
  rw [e]
  unfold firstN
  cases hq : dcQw (l[i], c) with
  | true =>
   rw [hq, if_pos rfl] at hs
   rw [if_pos rfl]
   exact Runs'.done (lp := LP0) LPok.none dciaw hs
  | false =>
   rw [hq, if_neg (by simp)] at hs
   rw [if_neg (by simp)]
   exact Runs'.step (lp := LP0) LPok.none dciaw hs (dcirw l c hl j (i + 1) (by omega) m (by omega))
def dciFw (d : List Wait_T × dcCw) : Int := firstN (fun w => dcQw (w, d.2)) d.1 0
def dciHw (d : List Wait_T × dcCw) : St := dcihw false d.1 d.2 0
theorem dciH_injw (d d' : List Wait_T × dcCw) (h : dciHw d = dciHw d') : d = d' := by
 obtain ⟨l, c⟩ := d
 obtain ⟨l', c'⟩ := d'
 simp only [dciHw, dcihw, dcbsw, dcRoww, boxB, Bool.false_eq_true, if_false, St.mk.injEq, List.cons.injEq, Prod.mk.injEq, Blk.mk.injEq, AV.int.injEq, and_true, true_and] at h
 refine Prod.ext (map_inj (fs := Wait_tfs) rfl h.2.1) ?_
 exact h.2.2
noncomputable def dciLw : LP := LP.of dciHw (fun d => 1 ≤ d.1.length ∧ d.1.length ≤ 100000) fun d => .ite (decide (0 ≤ dciFw d)) (.leaf (.ret, { fr := [(4, .int .i64 (dciFw d))], bs := dcbsw true d.1 d.2, df := [] })) (.leaf (.exit 0, { fr := [], bs := dcbsw true d.1 d.2, df := [] }))
noncomputable def dciLPw : LPs := LPs.add LP0 30 0 dciLw
theorem dciLP_okw : LPok Try.prog cfg dc1w dciLPw 30 := LPok.addH LPok.none dciow (by
 rintro ⟨l, c⟩ ⟨h1, h2⟩
 simp only at h1 h2
 have key : Runs' Try.prog cfg dc1w 30 0 rounds (dciHw (l, c)) (dciyw l c (dciFw (l, c))) := by
  have h0 : (0 : Nat) < l.length := h1
  have hs := dci0_ew l c 0 h0 h2
  have e : l = l[0] :: l.drop 1 := by have := List.drop_eq_getElem_cons h0; simpa using this
  have ef : dciFw (l, c) = if dcQw (l[0], c) = true then 0 else firstN (fun w => dcQw (w, c)) (l.drop 1) 1 := by
   show firstN (fun w => dcQw (w, c)) l 0 = _
   conv => lhs; rw [e]
   rfl
  rw [ef]
  cases hq : dcQw (l[0], c) with
  | true =>
   rw [hq, if_pos rfl] at hs
   rw [if_pos rfl]
   exact Runs'.done (lp := LP0) (k := rounds - 1) LPok.none dciaw hs
  | false =>
   rw [hq, if_neg (by simp)] at hs
   rw [if_neg (by simp)]
   exact Runs'.step (lp := LP0) (k := rounds - 1) LPok.none dciaw hs (dcirw l c h2 (l.length - 1) 1 (by omega) (rounds - 1) (by simp only [rounds]; omega))
 unfold dciyw at key
 simp only [Alt.val]
 by_cases hq : 0 ≤ dciFw (l, c)
 ·rw [if_pos hq] at key; rw [decide_eq_true hq]; exact key
 ·rw [if_neg hq] at key; rw [decide_eq_false hq]; exact key)
noncomputable def dciuw (l : List Wait_T) (c : dcCw) : Option Ret := unitQ Try.prog cfg dc1w dciLPw true 30 (dcDAw (l, c)).1 (dcDAw (l, c)).2
noncomputable def dciuw_r (l : List Wait_T) (c : dcCw) : Option Ret :=
 bK (decide (0 + (mW l).length ≤ (mW l).length)) (oK (dciLw.dec (sf [(0, .sref 1000000 0 0 (mW l).length), (1, .fn 63 [] [pt 1000001]), (7, i6 (↑(mW l).length : Int)), (8, i6 0)] [(1000000, (rw4 l)), (1000001, (bx [i6 c]))])) fun (d0 : List Wait_T × Int) => bK (decide (0 ≤ dciFw d0)) (some { pan := false, res := i6 (dciFw d0), out := [(rw4 d0.1), (bx [i6 d0.2])], new := [] }) (some { pan := false, res := i6 (-1), out := [(rw4 d0.1), (bx [i6 d0.2])], new := [] })) none
theorem dciuw_w (l : List Wait_T) (c : dcCw) : dciuw l c = dciuw_r l c := by kernel_rfl

noncomputable def dciPw : PK := PK.of dcDAw (fun d => 1 ≤ d.1.length ∧ d.1.length ≤ 100000) fun d => .leaf { pan := false, res := .int .i64 (dciFw d), out := dcRoww d.1 :: dcBw d.2, new := [] }
noncomputable def dc2w : PKs := dc1w.add 30 dciPw
theorem dc2_okw : PKsOk Try.prog dc2w := PKsOk.any dc1_okw 30 dcDAw _ _ (by
 rintro ⟨l, c⟩ ⟨h1, h2⟩
 refine CallOk.unit (fnOk dc1_okw 21) rfl dciLP_okw.loops (o := true) (by show 2 ≤ 1000; decide) ((dciuw_w l c).trans ?_)
 unfold dciuw_r
 refine bK_tq (Q := (· = _)) (by simp) ?_
 refine oK_lpq (Q := (· = _)) dciH_injw (l, c) ⟨h1, h2⟩ ?_
 refine bK_i (fun _ => rfl) (fun hn => ?_)
 have e : dciFw (l, c) = -1 := by
  rcases firstN_lt (fun w => dcQw (w, c)) l with h | h
  ·exact h
  ·exact absurd h.1 hn
 simp only [Alt.val, e]
 rfl)
def dcdhw (q : Bool) (l : List Wait_T) (c : dcCw) (i j : Int) : St := { fr := [(0, .sref 1000000 0 0 (l.map (mkV true Wait_tfs)).length), (1, .fn 63 [] [AV.ptr 1000001 0 0 0]), (5, .int .i64 i), (6, .int .i64 j)], bs := dcbsw q l c, df := [] }
noncomputable def dcd0w (l : List Wait_T) (c : dcCw) (i j : Int) : Option (St ⊕ (Ex × St)) := stepK Try.prog cfg dc2w LP0 62 0 (dcdhw false l c i j)
noncomputable def dcd0w_r (l : List Wait_T) (c : dcCw) (i : Int) (j : Int) : Option (St ⊕ Ex × St) :=
 bK (decide (0 + (mW l).length ≤ (mW l).length))
 (bK (decide (j < (↑(mW l).length : Int)))
 (bK (decide (0 ≤ j ∧ j < (↑(mW l).length : Int)))
 (oK (ldRow Wait_tfs (mW l) (0 + j.toNat) 0) fun (d0 : Int × Int × Int × Int) =>
 oK (dcPw.dec [AV.agg [i6 d0.1, i6 d0.2.1, i6 d0.2.2.1, i6 d0.2.2.2], pt 1000000] [(bx [i6 c])]) fun (d1 : (Int × Int × Int × Int) × Int) => bK (!dcQw d1) (bK (decide (0 ≤ i ∧ i < (↑(mW l).length : Int))) (oK (stRow (mW l) (0 + i.toNat) 0 [i6 d0.1, i6 d0.2.1, i6 d0.2.2.1, i6 d0.2.2.2]) fun (d2 : List AV) => some (.inl (sf [(0, .sref 1000000 0 0 (mW l).length), (1, .fn 63 [] [pt 1000001]), (5, i6 (IntKind.i64.wrap (i + 1))), (6, i6 (IntKind.i64.wrap (j + 1)))] [(1000000, { v := 0, k := .row, fz := false, sz := 4, es := d2 }), (1000001, (bx [i6 d1.2]))]))) none) (some (.inl (sf [(0, .sref 1000000 0 0 (mW l).length), (1, .fn 63 [] [pt 1000001]), (5, i6 i), (6, i6 (IntKind.i64.wrap (j + 1)))] [(1000001, (bx [i6 d1.2])), (1000000, (rw4 l))]))))
 none)
 (some (.inr (.exit 0, (sf [(0, .sref 1000000 0 0 (mW l).length), (5, i6 i)] [(1000000, (rw4 l)), (1000001, (bx [i6 c]))])))))
 none
theorem dcd0w_w (l : List Wait_T) (c : dcCw) (i : Int) (j : Int) : dcd0w l c i j = dcd0w_r l c i j := by kernel_rfl

noncomputable def dcd1w (l : List Wait_T) (c : dcCw) (i j : Int) : Option (St ⊕ (Ex × St)) := stepK Try.prog cfg dc2w LP0 62 0 (dcdhw true l c i j)
noncomputable def dcd1w_r (l : List Wait_T) (c : dcCw) (i : Int) (j : Int) : Option (St ⊕ Ex × St) :=
 bK (decide (0 + (mW l).length ≤ (mW l).length))
 (bK (decide (j < (↑(mW l).length : Int)))
 (bK (decide (0 ≤ j ∧ j < (↑(mW l).length : Int)))
 (oK (ldRow Wait_tfs (mW l) (0 + j.toNat) 0) fun (d0 : Int × Int × Int × Int) =>
 oK (dcPw.dec [AV.agg [i6 d0.1, i6 d0.2.1, i6 d0.2.2.1, i6 d0.2.2.2], pt 1000000] [(bx [i6 c])]) fun (d1 : (Int × Int × Int × Int) × Int) => bK (!dcQw d1) (bK (decide (0 ≤ i ∧ i < (↑(mW l).length : Int))) (oK (stRow (mW l) (0 + i.toNat) 0 [i6 d0.1, i6 d0.2.1, i6 d0.2.2.1, i6 d0.2.2.2]) fun (d2 : List AV) => some (.inl (sf [(0, .sref 1000000 0 0 (mW l).length), (1, .fn 63 [] [pt 1000001]), (5, i6 (IntKind.i64.wrap (i + 1))), (6, i6 (IntKind.i64.wrap (j + 1)))] [(1000000, { v := 0, k := .row, fz := false, sz := 4, es := d2 }), (1000001, (bx [i6 d1.2]))]))) none) (some (.inl (sf [(0, .sref 1000000 0 0 (mW l).length), (1, .fn 63 [] [pt 1000001]), (5, i6 i), (6, i6 (IntKind.i64.wrap (j + 1)))] [(1000001, (bx [i6 d1.2])), (1000000, (rw4 l))]))))
 none)
 (some (.inr (.exit 0, (sf [(0, .sref 1000000 0 0 (mW l).length), (5, i6 i)] [(1000001, (bx [i6 c])), (1000000, (rw4 l))])))))
 none
theorem dcd1w_w (l : List Wait_T) (c : dcCw) (i : Int) (j : Int) : dcd1w l c i j = dcd1w_r l c i j := by kernel_rfl

def dcdxw (q : Bool) (l : List Wait_T) (c : dcCw) (i : Int) : Ex × St := (.exit 0, { fr := [(0, .sref 1000000 0 0 (l.map (mkV true Wait_tfs)).length), (5, .int .i64 i)], bs := dcbsw q l c, df := [] })
theorem dcdhsw (q : Bool) (l : List Wait_T) (x : Wait_T) (n : Nat) (c : dcCw) (i j : Int) : dcdhw q (l.set n x) c i j = { fr := [(0, .sref 1000000 0 0 (l.map (mkV true Wait_tfs)).length), (1, .fn 63 [] [AV.ptr 1000001 0 0 0]), (5, .int .i64 i), (6, .int .i64 j)], bs := dcbsw q (l.set n x) c, df := [] } := by
 unfold dcdhw
 rw [show ((l.set n x).map (mkV true Wait_tfs)).length = (l.map (mkV true Wait_tfs)).length by simp]
theorem dcd0_ew (l : List Wait_T) (c : dcCw) (i j : Nat) (hj : j < l.length) (hi : i ≤ j) (hl : l.length ≤ 100000) : dcd0w l c i j = if dcQw (l[j], c) = true then some (.inl (dcdhw true l c i ((j + 1 : Nat) : Int))) else some (.inl (dcdhw false (l.set i l[j]) c ((i + 1 : Nat) : Int) ((j + 1 : Nat) : Int))) := by
 refine (dcd0w_w l c i j).trans ?_
 unfold dcd0w_r
 refine bK_tq (Q := (· = _)) (by simp) (bK_tq (Q := (· = _)) (by simp; omega) (bK_tq (Q := (· = _)) (by simp; omega) ?_))
 refine oK_q (Q := (· = _)) (a := l[j]) (by rw [Nat.zero_add, Int.toNat_natCast, ldRow_map (fs := Wait_tfs) rfl l (0, 0, 0, 0) hj, getD_at hj]) ?_
 refine oK_pkq (Q := (· = _)) dcA_injw (l[j], c) trivial ?_
 rw [w64 (by omega) (by omega), w64 (by omega) (by omega)]
 cases hq : dcQw (l[j], c) with
 | true => rfl
 | false =>
  rw [if_neg (by simp), dcdhsw]
  refine bK_tq (Q := (· = _)) rfl (bK_tq (Q := (· = _)) (by simp; omega) ?_)
  exact oK_q (Q := (· = _)) (a := (l.set i l[j]).map (mkV true Wait_tfs)) (by rw [Nat.zero_add, Int.toNat_natCast]; exact stRow_map (fs := Wait_tfs) l i (by omega) l[j]) rfl
theorem dcd1_ew (l : List Wait_T) (c : dcCw) (i j : Nat) (hj : j < l.length) (hi : i ≤ j) (hl : l.length ≤ 100000) : dcd1w l c i j = if dcQw (l[j], c) = true then some (.inl (dcdhw true l c i ((j + 1 : Nat) : Int))) else some (.inl (dcdhw false (l.set i l[j]) c ((i + 1 : Nat) : Int) ((j + 1 : Nat) : Int))) := by
 refine (dcd1w_w l c i j).trans ?_
 unfold dcd1w_r
 refine bK_tq (Q := (· = _)) (by simp) (bK_tq (Q := (· = _)) (by simp; omega) (bK_tq (Q := (· = _)) (by simp; omega) ?_))
 refine oK_q (Q := (· = _)) (a := l[j]) (by rw [Nat.zero_add, Int.toNat_natCast, ldRow_map (fs := Wait_tfs) rfl l (0, 0, 0, 0) hj, getD_at hj]) ?_
 refine oK_pkq (Q := (· = _)) dcA_injw (l[j], c) trivial ?_
 rw [w64 (by omega) (by omega), w64 (by omega) (by omega)]
 cases hq : dcQw (l[j], c) with
 | true => rfl
 | false =>
  rw [if_neg (by simp), dcdhsw]
  refine bK_tq (Q := (· = _)) rfl (bK_tq (Q := (· = _)) (by simp; omega) ?_)
  exact oK_q (Q := (· = _)) (a := (l.set i l[j]).map (mkV true Wait_tfs)) (by rw [Nat.zero_add, Int.toNat_natCast]; exact stRow_map (fs := Wait_tfs) l i (by omega) l[j]) rfl
theorem dcdlw : (loopsOf 0 (codeOf Try.prog 62)).map (·.1) = [0] := by kernel_rfl
theorem dcdow : OneLoops Try.prog 62 := by unfold OneLoops; rw [dcdlw]; decide
theorem dcdaw : At 0 (codeOf Try.prog 62) 0 (.loop (bodyAt Try.prog 62 0)) := at_body dcdow (by rw [dcdlw]; decide)
def dclqw (c : dcCw) : Nat → Bool → List Wait_T → Nat → Nat → Bool
 | 0, q, _, _, _ => q
 | k + 1, q, B, i, j => match B[j]? with
  | none => q
  | some v => if dcQw (v, c) = true then dclqw c k true B i (j + 1) else dclqw c k false (B.set i v) (i + 1) (j + 1)
theorem dcdrw (c : dcCw) : ∀ (k : Nat) (q : Bool) (B : List Wait_T) (i j : Nat), i ≤ j → j + k = B.length → B.length ≤ 100000 → ∀ (m : Nat), k < m →
  Runs' Try.prog cfg dc2w 62 0 m (dcdhw q B c i j) (dcdxw (dclqw c k q B i j) (delN (fun w => dcQw (w, c)) k B i j).1 c ((delN (fun w => dcQw (w, c)) k B i j).2 : Int))
 | 0, q, B, i, j, hij, hl, hb, m + 1, hm => by
  cases q with
  | false =>
   refine Runs'.done (lp := LP0) LPok.none dcdaw ((dcd0w_w B c i j).trans ?_)
   unfold dcd0w_r
   rw [bK_pos (by simp), bK_neg (by simp; omega)]
   rfl
  | true =>
   refine Runs'.done (lp := LP0) LPok.none dcdaw ((dcd1w_w B c i j).trans ?_)
   unfold dcd1w_r
   rw [bK_pos (by simp), bK_neg (by simp; omega)]
   rfl
 | k + 1, q, B, i, j, hij, hl, hb, m + 1, hm => by
  have hj : j < B.length := by omega
  have hs : (if q then dcd1w else dcd0w) B c i j = if dcQw (B[j], c) = true then some (.inl (dcdhw true B c i ((j + 1 : Nat) : Int))) else some (.inl (dcdhw false (B.set i B[j]) c ((i + 1 : Nat) : Int) ((j + 1 : Nat) : Int))) := by
   cases q with
   | true => exact dcd1_ew B c i j hj hij hb
   | false => exact dcd0_ew B c i j hj hij hb
  have hs' : ∀ r, (if q then dcd1w else dcd0w) B c i j = r → stepK Try.prog cfg dc2w LP0 62 0 (dcdhw q B c i j) = r := by
   intro r hr
   cases q with
   | true => exact hr
   | false => exact hr
  unfold dclqw delN
  rw [List.getElem?_eq_getElem hj]
  simp only
  cases hq : dcQw (B[j], c) with
  | true =>
   rw [hq, if_pos rfl] at hs
   simp only [if_true]
   exact Runs'.step (lp := LP0) LPok.none dcdaw (hs' _ hs) (dcdrw c k true B i (j + 1) (by omega) (by omega) hb m (by omega))
  | false =>
   rw [hq] at hs
   rw [if_neg (show ¬ (false = true) by simp)] at hs
   simp only [Bool.false_eq_true, if_false]
   exact Runs'.step (lp := LP0) LPok.none dcdaw (hs' _ hs) (dcdrw c k false (B.set i B[j]) (i + 1) (j + 1) (by omega) (by simp; omega) (by simpa using hb) m (by omega))
abbrev dcdDw : Type := List Wait_T × dcCw × Int × Int
def dcdqw (d : dcdDw) : Bool := dclqw d.2.1 (d.1.length - d.2.2.2.toNat) false d.1 d.2.2.1.toNat d.2.2.2.toNat
def dcdww (d : dcdDw) : List Wait_T := (delN (fun w => dcQw (w, d.2.1)) (d.1.length - d.2.2.2.toNat) d.1 d.2.2.1.toNat d.2.2.2.toNat).1
def dcdnw (d : dcdDw) : Int := ((delN (fun w => dcQw (w, d.2.1)) (d.1.length - d.2.2.2.toNat) d.1 d.2.2.1.toNat d.2.2.2.toNat).2 : Int)
def dcdHw (d : dcdDw) : St := dcdhw false d.1 d.2.1 d.2.2.1 d.2.2.2
theorem dcdH_injw (d d' : dcdDw) (h : dcdHw d = dcdHw d') : d = d' := by
 obtain ⟨l, c, i, j⟩ := d
 obtain ⟨l', c', i', j'⟩ := d'
 simp only [dcdHw, dcdhw, dcbsw, dcRoww, boxB, Bool.false_eq_true, if_false, St.mk.injEq, List.cons.injEq, Prod.mk.injEq, Blk.mk.injEq, AV.int.injEq, and_true, true_and] at h
 obtain ⟨⟨h1, h2, h3⟩, h4, h5⟩ := h
 have e1 := map_inj (fs := Wait_tfs) rfl h4
 have e2 : c = c' := by exact h5
 rw [e1, e2, h2, h3]
noncomputable def dcdLw : LP := LP.of dcdHw (fun d => 0 ≤ d.2.2.1 ∧ d.2.2.1 ≤ d.2.2.2 ∧ d.2.2.2 ≤ (d.1.length : Int) ∧ d.1.length ≤ 100000) fun d => .ite (dcdqw d) (.leaf (.exit 0, { fr := [(0, .sref 1000000 0 0 ((dcdww d).map (mkV true Wait_tfs)).length), (5, .int .i64 (dcdnw d))], bs := dcbsw true (dcdww d) d.2.1, df := [] })) (.leaf (.exit 0, { fr := [(0, .sref 1000000 0 0 ((dcdww d).map (mkV true Wait_tfs)).length), (5, .int .i64 (dcdnw d))], bs := dcbsw false (dcdww d) d.2.1, df := [] }))
noncomputable def dcdLPw : LPs := LPs.add LP0 62 0 dcdLw
theorem dcdLP_okw : LPok Try.prog cfg dc2w dcdLPw 62 := LPok.addH LPok.none dcdow (by
 rintro ⟨l, c, i, j⟩ ⟨h1, h2, h3, h4⟩
 simp only at h1 h2 h3 h4
 have hr := dcdrw c (l.length - j.toNat) false l i.toNat j.toNat (by omega) (by omega) h4 rounds (by simp only [rounds]; omega)
 have e : (dcdhw false l c (i.toNat : Int) (j.toNat : Int)) = dcdHw (l, c, i, j) := by
  unfold dcdHw
  rw [show (i.toNat : Int) = i by omega, show (j.toNat : Int) = j by omega]
 rw [e] at hr
 simp only [Alt.val]
 have eq1 : dcdqw (l, c, i, j) = dclqw c (l.length - j.toNat) false l i.toNat j.toNat := rfl
 have hr2 : Runs' Try.prog cfg dc2w 62 0 rounds (dcdHw (l, c, i, j)) (dcdxw (dcdqw (l, c, i, j)) (dcdww (l, c, i, j)) c (dcdnw (l, c, i, j))) := hr
 cases hq : dcdqw (l, c, i, j) with
 | true => rw [hq] at hr2; exact hr2
 | false => rw [hq] at hr2; exact hr2)
noncomputable def dcduw (l : List Wait_T) (c : dcCw) : Option Ret := unitQ Try.prog cfg dc2w dcdLPw true 62 (dcDAw (l, c)).1 (dcDAw (l, c)).2
noncomputable def dcduw_r (l : List Wait_T) (c : dcCw) : Option Ret :=
 oK (dciPw.dec [.sref 1000000 0 0 (mW l).length, .fn 63 [] [pt 1000001]] [(rw4 l), (bx [i6 c])]) fun (d0 : List Wait_T × Int) =>
 bK (decide (dciFw d0 = -1)) (some { pan := false, res := .sref 1000000 0 0 (mW l).length, out := [(rw4 d0.1), (bx [i6 d0.2])], new := [] })
 (oK (dcdLw.dec (sf [(0, .sref 1000000 0 0 (mW l).length), (1, .fn 63 [] [pt 1000001]), (5, i6 (dciFw d0)), (6, i6 (IntKind.i64.wrap (dciFw d0 + 1)))] [(1000000, (rw4 d0.1)), (1000001, (bx [i6 d0.2]))])) fun (d1 : List Wait_T × Int × Int × Int) =>
 bK (dcdqw d1)
 (bK (decide (0 ≤ dcdnw d1))
 (bK (decide ((dcdnw d1).toNat ≤ (mW (dcdww d1)).length ∧ 0 + (mW (dcdww d1)).length ≤ (mW (dcdww d1)).length))
 (bK (decide ((dcdnw d1).toNat = 0 ∨ 0 + (dcdnw d1).toNat < (mW (dcdww d1)).length)) (bK (decide (0 + (dcdnw d1).toNat + ((mW (dcdww d1)).length - (dcdnw d1).toNat) ≤ (mW (dcdww d1)).length)) (bK (decide (0 ≤ dcdnw d1)) (bK (decide (0 ≤ (dcdnw d1).toNat ∧ 0 + (dcdnw d1).toNat ≤ (List.take (0 + (dcdnw d1).toNat) (mW (dcdww d1)) ++ (List.replicate ((mW (dcdww d1)).length - (dcdnw d1).toNat) (AV.agg [i6 0, i6 0, i6 0, i6 0]) ++ List.drop (0 + (dcdnw d1).toNat + ((mW (dcdww d1)).length - (dcdnw d1).toNat)) (mW (dcdww d1)))).length)) (some { pan := false, res := .sref 1000000 0 0 ((dcdnw d1).toNat - 0), out := [{ v := 0, k := .row, fz := false, sz := 4, es := List.take (0 + (dcdnw d1).toNat) (mW (dcdww d1)) ++ (List.replicate ((mW (dcdww d1)).length - (dcdnw d1).toNat) (AV.agg [i6 0, i6 0, i6 0, i6 0]) ++ List.drop (0 + (dcdnw d1).toNat + ((mW (dcdww d1)).length - (dcdnw d1).toNat)) (mW (dcdww d1))) }, (bx [i6 d1.2.1])], new := [] }) none) none) none)
 (bK (decide (0 ≤ dcdnw d1)) (bK (decide (0 ≤ (dcdnw d1).toNat ∧ 0 + (dcdnw d1).toNat ≤ (mW (dcdww d1)).length)) (some { pan := false, res := .sref 1000000 0 0 ((dcdnw d1).toNat - 0), out := [(rw4 (dcdww d1)), (bx [i6 d1.2.1])], new := [] }) none) none))
 none)
 none)
 (bK (decide (0 ≤ dcdnw d1))
 (bK (decide ((dcdnw d1).toNat ≤ (mW (dcdww d1)).length ∧ 0 + (mW (dcdww d1)).length ≤ (mW (dcdww d1)).length))
 (bK (decide ((dcdnw d1).toNat = 0 ∨ 0 + (dcdnw d1).toNat < (mW (dcdww d1)).length)) (bK (decide (0 + (dcdnw d1).toNat + ((mW (dcdww d1)).length - (dcdnw d1).toNat) ≤ (mW (dcdww d1)).length)) (bK (decide (0 ≤ dcdnw d1)) (bK (decide (0 ≤ (dcdnw d1).toNat ∧ 0 + (dcdnw d1).toNat ≤ (List.take (0 + (dcdnw d1).toNat) (mW (dcdww d1)) ++ (List.replicate ((mW (dcdww d1)).length - (dcdnw d1).toNat) (AV.agg [i6 0, i6 0, i6 0, i6 0]) ++ List.drop (0 + (dcdnw d1).toNat + ((mW (dcdww d1)).length - (dcdnw d1).toNat)) (mW (dcdww d1)))).length)) (some { pan := false, res := .sref 1000000 0 0 ((dcdnw d1).toNat - 0), out := [{ v := 0, k := .row, fz := false, sz := 4, es := List.take (0 + (dcdnw d1).toNat) (mW (dcdww d1)) ++ (List.replicate ((mW (dcdww d1)).length - (dcdnw d1).toNat) (AV.agg [i6 0, i6 0, i6 0, i6 0]) ++ List.drop (0 + (dcdnw d1).toNat + ((mW (dcdww d1)).length - (dcdnw d1).toNat)) (mW (dcdww d1))) }, (bx [i6 d1.2.1])], new := [] }) none) none) none)
 (bK (decide (0 ≤ dcdnw d1)) (bK (decide (0 ≤ (dcdnw d1).toNat ∧ 0 + (dcdnw d1).toNat ≤ (mW (dcdww d1)).length)) (some { pan := false, res := .sref 1000000 0 0 ((dcdnw d1).toNat - 0), out := [(rw4 (dcdww d1)), (bx [i6 d1.2.1])], new := [] }) none) none))
 none)
 none))
theorem dcduw_w (l : List Wait_T) (c : dcCw) : dcduw l c = dcduw_r l c := by kernel_rfl

def dckFw (d : List Wait_T × dcCw) : List Wait_T := d.1.filter fun w => !dcQw (w, d.2)
def dckZw (d : List Wait_T × dcCw) : List Wait_T := keepZ (fun w => dcQw (w, d.2)) (0, 0, 0, 0) d.1
noncomputable def dcdPw : PK := PK.of dcDAw (fun d => 1 ≤ d.1.length ∧ d.1.length ≤ 100000) fun d => .leaf { pan := false, res := .sref outBase 0 0 (dckFw d).length, out := dcRoww (dckZw d) :: dcBw d.2, new := [] }
theorem dcdOw (d : List Wait_T × dcCw) (h : 1 ≤ d.1.length ∧ d.1.length ≤ 100000) : CallOk Try.prog 62 (dcDAw d).1 (dcDAw d).2 { pan := false, res := .sref outBase 0 0 (dckFw d).length, out := dcRoww (dckZw d) :: dcBw d.2, new := [] } := by
 obtain ⟨l, c⟩ := d
 obtain ⟨h1, h2⟩ := h
 simp only at h1 h2
 refine CallOk.unit (fnOk dc2_okw 21) rfl dcdLP_okw.loops (o := true) (by show 2 ≤ 1000; decide) ((dcduw_w l c).trans ?_)
 unfold dcduw_r
 refine oK_pkq (Q := (· = _)) dcDA_injw (l, c) ⟨h1, h2⟩ ?_
 have hF : dciFw (l, c) = firstN (fun w => dcQw (w, c)) l 0 := rfl
 have hk : dckFw (l, c) = l.filter fun w => !dcQw (w, c) := rfl
 rcases firstN_ge (fun w => dcQw (w, c)) l 0 (by omega) with ⟨e1, e2⟩ | ⟨n, hn, e1, e2, e3⟩
 ·obtain ⟨k1, k2⟩ := keepZ_none (z := ((0, 0, 0, 0) : Wait_T)) e2
  have hz : dckZw (l, c) = l := k1
  rw [bK_pos (by rw [hF, e1]; rfl), hz, hk, k2, List.length_map]
  rfl
 ·rw [hF, e1, Int.zero_add]
  rw [bK_neg (decide_eq_false (by omega)), w64 (by omega) (by omega)]
  refine oK_lpq (Q := (· = _)) dcdH_injw (l, c, (n : Int), (n : Int) + 1) ⟨by show (0 : Int) ≤ (n : Int); omega, by show (n : Int) ≤ (n : Int) + 1; omega, by show (n : Int) + 1 ≤ (l.length : Int); omega, h2⟩ ?_
  obtain ⟨d1, d2, d3⟩ := delN_spec (fun w => dcQw (w, c)) (l.length - (n + 1)) l n (n + 1) (by omega) (by omega)
  have hf := filter_take_none (p := fun w => dcQw (w, c)) hn e2 e3
  rw [← hf] at d3
  have hw : dcdww (l, c, (n : Int), (n : Int) + 1) = (delN (fun w => dcQw (w, c)) (l.length - (n + 1)) l n (n + 1)).1 := by
   unfold dcdww
   simp only
   rw [show ((n : Int) + 1).toNat = n + 1 by omega, Int.toNat_natCast]
  have hn' : dcdnw (l, c, (n : Int), (n : Int) + 1) = ((delN (fun w => dcQw (w, c)) (l.length - (n + 1)) l n (n + 1)).2 : Int) := by
   unfold dcdnw
   simp only
   rw [show ((n : Int) + 1).toNat = n + 1 by omega, Int.toNat_natCast]
  have hle := List.length_filter_le (fun a => !dcQw (a, c)) (l.drop (n + 1))
  rw [List.length_drop] at hle
  generalize delN (fun w => dcQw (w, c)) (l.length - (n + 1)) l n (n + 1) = y at d1 d2 d3 hw hn'
  obtain ⟨W, m⟩ := y
  simp only at d1 d2 d3 hw hn'
  rw [hw, hn', Int.toNat_natCast]
  have hm : m = (l.filter fun w => !dcQw (w, c)).length := by rw [← d3, List.length_take]; omega
  have hes := clear_eq (mkV true Wait_tfs) W _ m (0, 0, 0, 0) d3 hm
  have hz : dckZw (l, c) = (l.filter fun w => !dcQw (w, c)) ++ List.replicate (W.length - (l.filter fun w => !dcQw (w, c)).length) (0, 0, 0, 0) := by rw [d1]; rfl
  refine bK_bq (Q := (· = _)) (fun _ => ?_) (fun _ => ?_)
  ·refine bK_tq (Q := (· = _)) (decide_eq_true (by omega)) (bK_tq (Q := (· = _)) (decide_eq_true (by simp; omega)) (bK_tq (Q := (· = _)) (decide_eq_true (by simp; omega)) (bK_tq (Q := (· = _)) (decide_eq_true (by simp; omega)) (bK_tq (Q := (· = _)) (decide_eq_true (by omega)) ?_))))
   refine bK_tq (Q := (· = _)) (decide_eq_true (by simp; omega)) ?_
   rw [hk, ← hm]
   unfold dcRoww
   rw [hz, ← hes]
   rfl
  ·refine bK_tq (Q := (· = _)) (decide_eq_true (by omega)) (bK_tq (Q := (· = _)) (decide_eq_true (by simp; omega)) (bK_tq (Q := (· = _)) (decide_eq_true (by simp; omega)) (bK_tq (Q := (· = _)) (decide_eq_true (by simp; omega)) (bK_tq (Q := (· = _)) (decide_eq_true (by omega)) ?_))))
   refine bK_tq (Q := (· = _)) (decide_eq_true (by simp; omega)) ?_
   rw [hk, ← hm]
   unfold dcRoww
   rw [hz, ← hes]
   rfl

end Go.Proofs.Ytkanmigbbpppnaa
