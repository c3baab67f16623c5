/- A part of the proof: contracts of functions. -/
import Derived.Test.YtkanmigbbpppnaaT
import Derived.Test.YtkanmigbbpppnaaAbAny

set_option linter.unusedVariables false
set_option linter.unusedSimpArgs false
set_option maxRecDepth 100000
namespace Go.Proofs.Ytkanmigbbpppnaa
open Go Go.Ab
noncomputable def clu (x : Bool) (d : Lease_T) (l : List Lease_T) : Option Ret := unitQ Try.prog cfg PKz LP0 true 44 [.slc x (mkV true Lease_tfs d :: l.map (mkV true Lease_tfs))] []
noncomputable def clu_r (x : Bool) (d : Lease_T) (l : List Lease_T) : Option Ret :=
 bK ((AV.agg [i6 d.1, i6 d.2.1, i6 d.2.2.1, i6 d.2.2.2] :: mW l).all fun (y : AV) => decide (y.cells.length = 4)) (bK (true && bytesFit Try.prog 57 (0 + (AV.agg [i6 d.1, i6 d.2.1, i6 d.2.2.1, i6 d.2.2.2] :: mW l).length)) (some { pan := false, res := .sref 2000000 0 0 (0 + (AV.agg [i6 d.1, i6 d.2.1, i6 d.2.2.1, i6 d.2.2.2] :: mW l).length), out := [], new := [{ v := 0, k := .row, fz := false, sz := 4, es := AV.agg [i6 d.1, i6 d.2.1, i6 d.2.2.1, i6 d.2.2.2] :: mW l }] }) none) none
theorem clu_w (x : Bool) (d : Lease_T) (l : List Lease_T) : clu x d l = clu_r x d l := by kernel_rfl

theorem clby : Try.prog.bytesOf 57 = 32 := by kernel_rfl
theorem clfit {n : Nat} (h : n ≤ 1000000) : bytesFit Try.prog 57 n = true := by
 simp only [bytesFit, clby, decide_eq_true_eq]; omega
def clA (d : Bool × List Lease_T) : List AV × List Blk := ([.slc d.1 (d.2.map (mkV true Lease_tfs))], [])
noncomputable def clP : PK := PK.of clA (fun d => 1 ≤ d.2.length ∧ d.2.length ≤ 100000) fun d => .leaf { pan := false, res := .sref newBase 0 0 (d.2.map (mkV true Lease_tfs)).length, out := [], new := [{ v := 0, k := .row, fz := false, sz := Lease_tfs.length, es := d.2.map (mkV true Lease_tfs) }] }
theorem cl_inj (d d' : Bool × List Lease_T) (h : clA d = clA d') : d = d' := by
 obtain ⟨x, l⟩ := d
 obtain ⟨x', l'⟩ := d'
 simp only [clA, List.cons.injEq, Prod.mk.injEq, AV.slc.injEq, and_true, true_and] at h
 rw [h.1, map_inj (fs := Lease_tfs) rfl h.2]
noncomputable def clPK : PKs := PKz.add 44 clP
theorem clPK_ok : PKsOk Try.prog clPK := PKsOk.of (cfg := cfg) PKz_ok (fnOk PKz_ok 21) 44 rfl LP0 fLoops_none clA _ _ true (fun d => by show 0 ≤ 1000; decide) (by
 rintro ⟨x, l⟩ ⟨h1, h2⟩
 match l, h1, h2 with
 | d :: l, h1, h2 =>
  refine (clu_w x d l).trans ?_
  unfold clu_r
  rw [bK_pos (by simp [AV.cells, mkV, mkA, Tu.mk]), bK_pos (by
   rw [Bool.true_and]
   refine clfit ?_
   simp only [List.length_cons, List.length_map] at h2 ⊢
   omega)]
  simp only [Alt.val, List.map_cons, List.length_cons, List.length_map, Nat.zero_add]
  rfl)
abbrev pcC : Type := Int
abbrev pcD : Type := Lease_T × pcC
def pcB (c : pcC) : List Blk := [boxB [.int .i64 c]]
def pcA (d : pcD) : List AV × List Blk := (.agg (Tu.mk Lease_tfs d.1) :: [.ptr (outBase + 0) 0 0 0], pcB d.2)
noncomputable def pccu (w : Lease_T) (c : pcC) : Option Ret := unitQ Try.prog cfg PKz LP0 false 58 (pcA (w, c)).1 (pcA (w, c)).2
noncomputable def pccu_r (w : Lease_T) (c : pcC) : Option Ret :=
 some { pan := false, res := .bool (decide (w.2.2.2 ≤ c)), out := [(bx [i6 c])], new := [] }
theorem pccu_w (w : Lease_T) (c : pcC) : pccu w c = pccu_r w c := by kernel_rfl

def pcQ (d : pcD) : Bool := decide (d.1.2.2.2 ≤ d.2)
noncomputable def pcP : PK := PK.of pcA (fun _ => True) fun d => .leaf { pan := false, res := .bool (pcQ d), out := pcB d.2, new := [] }
noncomputable def pc1 : PKs := PKz.add 58 pcP
theorem pc1_ok : PKsOk Try.prog pc1 := PKsOk.any PKz_ok 58 pcA _ _ fun d _ => CallOk.unit (fnOk PKz_ok 21) rfl fLoops_none (by show 1 ≤ 1000; decide) (by exact pccu_w d.1 d.2)
theorem pcA_inj (d d' : pcD) (h : pcA d = pcA d') : d = d' := by
 obtain ⟨w, c⟩ := d
 obtain ⟨w', c'⟩ := d'
 simp only [pcA, pcB, boxB, List.cons.injEq, Prod.mk.injEq, AV.agg.injEq, Blk.mk.injEq, AV.int.injEq, and_true, true_and] at h
 refine Prod.ext (mk_inj (fs := Lease_tfs) rfl h.1) ?_
 exact h.2
def pcRow (l : List Lease_T) : Blk := { v := 0, k := .row, fz := false, sz := 4, es := l.map (mkV true Lease_tfs) }
def pcDA (d : List Lease_T × pcC) : List AV × List Blk := ([.sref outBase 0 0 (d.1.map (mkV true Lease_tfs)).length, .fn 58 [] [.ptr (outBase + 1) 0 0 0]], pcRow d.1 :: pcB d.2)
theorem pcDA_inj (d d' : List Lease_T × pcC) (h : pcDA d = pcDA d') : d = d' := by
 obtain ⟨l, c⟩ := d
 obtain ⟨l', c'⟩ := d'
 simp only [pcDA, pcRow, pcB, boxB, List.cons.injEq, Prod.mk.injEq, Blk.mk.injEq, AV.int.injEq, and_true, true_and] at h
 refine Prod.ext (map_inj (fs := Lease_tfs) rfl h.2.1) ?_
 exact h.2.2
def pcbs (q : Bool) (l : List Lease_T) (c : pcC) : List (Nat × Blk) := if q then [(1000001, boxB [.int .i64 c]), (1000000, pcRow l)] else [(1000000, pcRow l), (1000001, boxB [.int .i64 c])]
def pcih (q : Bool) (l : List Lease_T) (c : pcC) (i : Int) : St := { fr := [(0, .sref 1000000 0 0 (l.map (mkV true Lease_tfs)).length), (1, .fn 58 [] [AV.ptr 1000001 0 0 0]), (7, .int .i64 (((l.map (mkV true Lease_tfs)).length : Nat) : Int)), (8, .int .i64 i)], bs := pcbs q l c, df := [] }
noncomputable def pci0 (l : List Lease_T) (c : pcC) (i : Int) : Option (St ⊕ (Ex × St)) := stepK Try.prog cfg pc1 LP0 57 0 (pcih false l c i)
noncomputable def pci0_r (l : List Lease_T) (c : pcC) (i : Int) : Option (St ⊕ Ex × St) :=
 bK (decide (i < (↑(mW l).length : Int))) (bK (decide (0 ≤ i ∧ i < (↑(mW l).length : Int))) (oK (ldRow Wait_tfs (mW l) (0 + i.toNat) 0) fun (d0 : Int × Int × Int × Int) => oK (pcP.dec [AV.agg [i6 d0.1, i6 d0.2.1, i6 d0.2.2.1, i6 d0.2.2.2], pt 1000000] [(bx [i6 c])]) fun (d1 : (Int × Int × Int × Int) × Int) => bK (pcQ d1) (some (.inr (.ret, (sf [(4, i6 i)] [(1000001, (bx [i6 d1.2])), (1000000, (rw4 l))])))) (some (.inl (sf [(0, .sref 1000000 0 0 (mW l).length), (1, .fn 58 [] [pt 1000001]), (7, i6 (↑(mW l).length : Int)), (8, i6 (IntKind.i64.wrap (i + 1)))] [(1000001, (bx [i6 d1.2])), (1000000, (rw4 l))])))) none)
 (some (.inr (.exit 0, (sf [] [(1000000, (rw4 l)), (1000001, (bx [i6 c]))]))))
theorem pci0_w (l : List Lease_T) (c : pcC) (i : Int) : pci0 l c i = pci0_r l c i := by kernel_rfl

noncomputable def pci1 (l : List Lease_T) (c : pcC) (i : Int) : Option (St ⊕ (Ex × St)) := stepK Try.prog cfg pc1 LP0 57 0 (pcih true l c i)
noncomputable def pci1_r (l : List Lease_T) (c : pcC) (i : Int) : Option (St ⊕ Ex × St) :=
 bK (decide (i < (↑(mW l).length : Int))) (bK (decide (0 ≤ i ∧ i < (↑(mW l).length : Int))) (oK (ldRow Wait_tfs (mW l) (0 + i.toNat) 0) fun (d0 : Int × Int × Int × Int) => oK (pcP.dec [AV.agg [i6 d0.1, i6 d0.2.1, i6 d0.2.2.1, i6 d0.2.2.2], pt 1000000] [(bx [i6 c])]) fun (d1 : (Int × Int × Int × Int) × Int) => bK (pcQ d1) (some (.inr (.ret, (sf [(4, i6 i)] [(1000001, (bx [i6 d1.2])), (1000000, (rw4 l))])))) (some (.inl (sf [(0, .sref 1000000 0 0 (mW l).length), (1, .fn 58 [] [pt 1000001]), (7, i6 (↑(mW l).length : Int)), (8, i6 (IntKind.i64.wrap (i + 1)))] [(1000001, (bx [i6 d1.2])), (1000000, (rw4 l))])))) none)
 (some (.inr (.exit 0, (sf [] [(1000001, (bx [i6 c])), (1000000, (rw4 l))]))))
theorem pci1_w (l : List Lease_T) (c : pcC) (i : Int) : pci1 l c i = pci1_r l c i := by kernel_rfl

def pciy (l : List Lease_T) (c : pcC) (k : Int) : Ex × St := if 0 ≤ k then (.ret, { fr := [(4, .int .i64 k)], bs := pcbs true l c, df := [] }) else (.exit 0, { fr := [], bs := pcbs true l c, df := [] })
theorem pci0_e (l : List Lease_T) (c : pcC) (i : Nat) (hi : i < l.length) (hl : l.length ≤ 100000) : pci0 l c i = if pcQ (l[i], c) = true then some (.inr (pciy l c i)) else some (.inl (pcih true l c ((i + 1 : Nat) : Int))) := by
 refine (pci0_w l c i).trans ?_
 unfold pci0_r
 refine bK_tq (Q := (· = _)) (by simp; omega) (bK_tq (Q := (· = _)) (by simp; omega) ?_)
 refine oK_q (Q := (· = _)) (a := l[i]) (by rw [Nat.zero_add, Int.toNat_natCast, ldRow_map (fs := Lease_tfs) rfl l (0, 0, 0, 0) hi, getD_at hi]) ?_
 refine oK_pkq (Q := (· = _)) pcA_inj (l[i], c) trivial ?_
 rw [w64 (by omega) (by omega)]
 cases hq : pcQ (l[i], c) with
 | true => rw [if_pos rfl]; unfold pciy; rw [if_pos (by omega)]; rfl
 | false => rfl
theorem pci1_e (l : List Lease_T) (c : pcC) (i : Nat) (hi : i < l.length) (hl : l.length ≤ 100000) : pci1 l c i = if pcQ (l[i], c) = true then some (.inr (pciy l c i)) else some (.inl (pcih true l c ((i + 1 : Nat) : Int))) := by
 refine (pci1_w l c i).trans ?_
 unfold pci1_r
 refine bK_tq (Q := (· = _)) (by simp; omega) (bK_tq (Q := (· = _)) (by simp; omega) ?_)
 refine oK_q (Q := (· = _)) (a := l[i]) (by rw [Nat.zero_add, Int.toNat_natCast, ldRow_map (fs := Lease_tfs) rfl l (0, 0, 0, 0) hi, getD_at hi]) ?_
 refine oK_pkq (Q := (· = _)) pcA_inj (l[i], c) trivial ?_
 rw [w64 (by omega) (by omega)]
 cases hq : pcQ (l[i], c) with
 | true => rw [if_pos rfl]; unfold pciy; rw [if_pos (by omega)]; rfl
 | false => rfl
theorem pcil : (loopsOf 0 (codeOf Try.prog 57)).map (·.1) = [0] := by kernel_rfl
theorem pcio : OneLoops Try.prog 57 := by unfold OneLoops; rw [pcil]; decide
theorem pcia : At 0 (codeOf Try.prog 57) 0 (.loop (bodyAt Try.prog 57 0)) := at_body pcio (by rw [pcil]; decide)
theorem pcir (l : List Lease_T) (c : pcC) (hl : l.length ≤ 100000) : ∀ (j i : Nat), i + j = l.length → ∀ (m : Nat), j < m → Runs' Try.prog cfg pc1 57 0 m (pcih true l c i) (pciy l c (firstN (fun w => pcQ (w, c)) (l.drop i) i))
 | 0, i, hi, m + 1, hm => by
  rw [List.drop_of_length_le (by omega)]
  refine Runs'.done (lp := LP0) LPok.none pcia ((pci1_w l c i).trans ?_)
  unfold pci1_r
  rw [bK_neg (by simp; omega)]
  rfl
 | j + 1, i, hi, m + 1, hm => by
  have hi' : i < l.length := by omega
  have e : l.drop i = l[i] :: l.drop (i + 1) := List.drop_eq_getElem_cons hi'
  have hs := pci1_e l c i hi' hl
  rw [e]
  unfold firstN
  cases hq : pcQ (l[i], c) with
  | true =>
   rw [hq, if_pos rfl] at hs
   rw [if_pos rfl]
   exact Runs'.done (lp := LP0) LPok.none pcia hs
  | false =>
   rw [hq, if_neg (by simp)] at hs
   rw [if_neg (by simp)]
   exact Runs'.step (lp := LP0) LPok.none pcia hs (pcir l c hl j (i + 1) (by omega) m (by omega))
def pciF (d : List Lease_T × pcC) : Int := firstN (fun w => pcQ (w, d.2)) d.1 0
def pciH (d : List Lease_T × pcC) : St := pcih false d.1 d.2 0
theorem pciH_inj (d d' : List Lease_T × pcC) (h : pciH d = pciH d') : d = d' := by
 obtain ⟨l, c⟩ := d
 obtain ⟨l', c'⟩ := d'
 simp only [pciH, pcih, pcbs, pcRow, boxB, Bool.false_eq_true, if_false, St.mk.injEq, List.cons.injEq, Prod.mk.injEq, Blk.mk.injEq, AV.int.injEq, and_true, true_and] at h
 refine Prod.ext (map_inj (fs := Lease_tfs) rfl h.2.1) ?_
 exact h.2.2
noncomputable def pciL : LP := LP.of pciH (fun d => 1 ≤ d.1.length ∧ d.1.length ≤ 100000) fun d => .ite (decide (0 ≤ pciF d)) (.leaf (.ret, { fr := [(4, .int .i64 (pciF d))], bs := pcbs true d.1 d.2, df := [] })) (.leaf (.exit 0, { fr := [], bs := pcbs true d.1 d.2, df := [] }))
noncomputable def pciLP : LPs := LPs.add LP0 57 0 pciL
theorem pciLP_ok : LPok Try.prog cfg pc1 pciLP 57 := LPok.addH LPok.none pcio (by
 rintro ⟨l, c⟩ ⟨h1, h2⟩
 simp only at h1 h2
 have key : Runs' Try.prog cfg pc1 57 0 rounds (pciH (l, c)) (pciy l c (pciF (l, c))) := by
  have h0 : (0 : Nat) < l.length := h1
  have hs := pci0_e l c 0 h0 h2
  have e : l = l[0] :: l.drop 1 := by have := List.drop_eq_getElem_cons h0; simpa using this
  have ef : pciF (l, c) = if pcQ (l[0], c) = true then 0 else firstN (fun w => pcQ (w, c)) (l.drop 1) 1 := by
   show firstN (fun w => pcQ (w, c)) l 0 = _
   conv => lhs; rw [e]
   rfl
  rw [ef]
  cases hq : pcQ (l[0], c) with
  | true =>
   rw [hq, if_pos rfl] at hs
   rw [if_pos rfl]
   exact Runs'.done (lp := LP0) (k := rounds - 1) LPok.none pcia hs
  | false =>
   rw [hq, if_neg (by simp)] at hs
   rw [if_neg (by simp)]
   exact Runs'.step (lp := LP0) (k := rounds - 1) LPok.none pcia hs (pcir l c h2 (l.length - 1) 1 (by omega) (rounds - 1) (by simp only [rounds]; omega))
 unfold pciy at key
 simp only [Alt.val]
 by_cases hq : 0 ≤ pciF (l, c)
 ·rw [if_pos hq] at key; rw [decide_eq_true hq]; exact key
 ·rw [if_neg hq] at key; rw [decide_eq_false hq]; exact key)
noncomputable def pciu (l : List Lease_T) (c : pcC) : Option Ret := unitQ Try.prog cfg pc1 pciLP true 57 (pcDA (l, c)).1 (pcDA (l, c)).2
noncomputable def pciu_r (l : List Lease_T) (c : pcC) : Option Ret :=
 bK (decide (0 + (mW l).length ≤ (mW l).length)) (oK (pciL.dec (sf [(0, .sref 1000000 0 0 (mW l).length), (1, .fn 58 [] [pt 1000001]), (7, i6 (↑(mW l).length : Int)), (8, i6 0)] [(1000000, (rw4 l)), (1000001, (bx [i6 c]))])) fun (d0 : List Wait_T × Int) => bK (decide (0 ≤ pciF d0)) (some { pan := false, res := i6 (pciF d0), out := [(rw4 d0.1), (bx [i6 d0.2])], new := [] }) (some { pan := false, res := i6 (-1), out := [(rw4 d0.1), (bx [i6 d0.2])], new := [] })) none
theorem pciu_w (l : List Lease_T) (c : pcC) : pciu l c = pciu_r l c := by kernel_rfl

noncomputable def pciP : PK := PK.of pcDA (fun d => 1 ≤ d.1.length ∧ d.1.length ≤ 100000) fun d => .leaf { pan := false, res := .int .i64 (pciF d), out := pcRow d.1 :: pcB d.2, new := [] }
noncomputable def pc2 : PKs := pc1.add 57 pciP
theorem pc2_ok : PKsOk Try.prog pc2 := PKsOk.any pc1_ok 57 pcDA _ _ (by
 rintro ⟨l, c⟩ ⟨h1, h2⟩
 refine CallOk.unit (fnOk pc1_ok 21) rfl pciLP_ok.loops (o := true) (by show 2 ≤ 1000; decide) ((pciu_w l c).trans ?_)
 unfold pciu_r
 refine bK_tq (Q := (· = _)) (by simp) ?_
 refine oK_lpq (Q := (· = _)) pciH_inj (l, c) ⟨h1, h2⟩ ?_
 refine bK_i (fun _ => rfl) (fun hn => ?_)
 have e : pciF (l, c) = -1 := by
  rcases firstN_lt (fun w => pcQ (w, c)) l with h | h
  ·exact h
  ·exact absurd h.1 hn
 simp only [Alt.val, e]
 rfl)
def pcdh (q : Bool) (l : List Lease_T) (c : pcC) (i j : Int) : St := { fr := [(0, .sref 1000000 0 0 (l.map (mkV true Lease_tfs)).length), (1, .fn 58 [] [AV.ptr 1000001 0 0 0]), (5, .int .i64 i), (6, .int .i64 j)], bs := pcbs q l c, df := [] }
noncomputable def pcd0 (l : List Lease_T) (c : pcC) (i j : Int) : Option (St ⊕ (Ex × St)) := stepK Try.prog cfg pc2 LP0 43 0 (pcdh false l c i j)
noncomputable def pcd0_r (l : List Lease_T) (c : pcC) (i : Int) (j : Int) : Option (St ⊕ Ex × St) :=
 bK (decide (0 + (mW l).length ≤ (mW l).length))
 (bK (decide (j < (↑(mW l).length : Int)))
 (bK (decide (0 ≤ j ∧ j < (↑(mW l).length : Int)))
 (oK (ldRow Wait_tfs (mW l) (0 + j.toNat) 0) fun (d0 : Int × Int × Int × Int) =>
 oK (pcP.dec [AV.agg [i6 d0.1, i6 d0.2.1, i6 d0.2.2.1, i6 d0.2.2.2], pt 1000000] [(bx [i6 c])]) fun (d1 : (Int × Int × Int × Int) × Int) => bK (!pcQ d1) (bK (decide (0 ≤ i ∧ i < (↑(mW l).length : Int))) (oK (stRow (mW l) (0 + i.toNat) 0 [i6 d0.1, i6 d0.2.1, i6 d0.2.2.1, i6 d0.2.2.2]) fun (d2 : List AV) => some (.inl (sf [(0, .sref 1000000 0 0 (mW l).length), (1, .fn 58 [] [pt 1000001]), (5, i6 (IntKind.i64.wrap (i + 1))), (6, i6 (IntKind.i64.wrap (j + 1)))] [(1000000, { v := 0, k := .row, fz := false, sz := 4, es := d2 }), (1000001, (bx [i6 d1.2]))]))) none) (some (.inl (sf [(0, .sref 1000000 0 0 (mW l).length), (1, .fn 58 [] [pt 1000001]), (5, i6 i), (6, i6 (IntKind.i64.wrap (j + 1)))] [(1000001, (bx [i6 d1.2])), (1000000, (rw4 l))]))))
 none)
 (some (.inr (.exit 0, (sf [(0, .sref 1000000 0 0 (mW l).length), (5, i6 i)] [(1000000, (rw4 l)), (1000001, (bx [i6 c]))])))))
 none
theorem pcd0_w (l : List Lease_T) (c : pcC) (i : Int) (j : Int) : pcd0 l c i j = pcd0_r l c i j := by kernel_rfl

noncomputable def pcd1 (l : List Lease_T) (c : pcC) (i j : Int) : Option (St ⊕ (Ex × St)) := stepK Try.prog cfg pc2 LP0 43 0 (pcdh true l c i j)
noncomputable def pcd1_r (l : List Lease_T) (c : pcC) (i : Int) (j : Int) : Option (St ⊕ Ex × St) :=
 bK (decide (0 + (mW l).length ≤ (mW l).length))
 (bK (decide (j < (↑(mW l).length : Int)))
 (bK (decide (0 ≤ j ∧ j < (↑(mW l).length : Int)))
 (oK (ldRow Wait_tfs (mW l) (0 + j.toNat) 0) fun (d0 : Int × Int × Int × Int) =>
 oK (pcP.dec [AV.agg [i6 d0.1, i6 d0.2.1, i6 d0.2.2.1, i6 d0.2.2.2], pt 1000000] [(bx [i6 c])]) fun (d1 : (Int × Int × Int × Int) × Int) => bK (!pcQ d1) (bK (decide (0 ≤ i ∧ i < (↑(mW l).length : Int))) (oK (stRow (mW l) (0 + i.toNat) 0 [i6 d0.1, i6 d0.2.1, i6 d0.2.2.1, i6 d0.2.2.2]) fun (d2 : List AV) => some (.inl (sf [(0, .sref 1000000 0 0 (mW l).length), (1, .fn 58 [] [pt 1000001]), (5, i6 (IntKind.i64.wrap (i + 1))), (6, i6 (IntKind.i64.wrap (j + 1)))] [(1000000, { v := 0, k := .row, fz := false, sz := 4, es := d2 }), (1000001, (bx [i6 d1.2]))]))) none) (some (.inl (sf [(0, .sref 1000000 0 0 (mW l).length), (1, .fn 58 [] [pt 1000001]), (5, i6 i), (6, i6 (IntKind.i64.wrap (j + 1)))] [(1000001, (bx [i6 d1.2])), (1000000, (rw4 l))]))))
 none)
 (some (.inr (.exit 0, (sf [(0, .sref 1000000 0 0 (mW l).length), (5, i6 i)] [(1000001, (bx [i6 c])), (1000000, (rw4 l))])))))
 none
theorem pcd1_w (l : List Lease_T) (c : pcC) (i : Int) (j : Int) : pcd1 l c i j = pcd1_r l c i j := by kernel_rfl

def pcdx (q : Bool) (l : List Lease_T) (c : pcC) (i : Int) : Ex × St := (.exit 0, { fr := [(0, .sref 1000000 0 0 (l.map (mkV true Lease_tfs)).length), (5, .int .i64 i)], bs := pcbs q l c, df := [] })
theorem pcdhs (q : Bool) (l : List Lease_T) (x : Lease_T) (n : Nat) (c : pcC) (i j : Int) : pcdh q (l.set n x) c i j = { fr := [(0, .sref 1000000 0 0 (l.map (mkV true Lease_tfs)).length), (1, .fn 58 [] [AV.ptr 1000001 0 0 0]), (5, .int .i64 i), (6, .int .i64 j)], bs := pcbs q (l.set n x) c, df := [] } := by
 unfold pcdh
 rw [show ((l.set n x).map (mkV true Lease_tfs)).length = (l.map (mkV true Lease_tfs)).length by simp]
theorem pcd0_e (l : List Lease_T) (c : pcC) (i j : Nat) (hj : j < l.length) (hi : i ≤ j) (hl : l.length ≤ 100000) : pcd0 l c i j = if pcQ (l[j], c) = true then some (.inl (pcdh true l c i ((j + 1 : Nat) : Int))) else some (.inl (pcdh false (l.set i l[j]) c ((i + 1 : Nat) : Int) ((j + 1 : Nat) : Int))) := by
 refine (pcd0_w l c i j).trans ?_
 unfold pcd0_r
 refine bK_tq (Q := (· = _)) (by simp) (bK_tq (Q := (· = _)) (by simp; omega) (bK_tq (Q := (· = _)) (by simp; omega) ?_))
 refine oK_q (Q := (· = _)) (a := l[j]) (by rw [Nat.zero_add, Int.toNat_natCast, ldRow_map (fs := Lease_tfs) rfl l (0, 0, 0, 0) hj, getD_at hj]) ?_
 refine oK_pkq (Q := (· = _)) pcA_inj (l[j], c) trivial ?_
 rw [w64 (by omega) (by omega), w64 (by omega) (by omega)]
 cases hq : pcQ (l[j], c) with
 | true => rfl
 | false =>
  rw [if_neg (by simp), pcdhs]
  refine bK_tq (Q := (· = _)) rfl (bK_tq (Q := (· = _)) (by simp; omega) ?_)
  exact oK_q (Q := (· = _)) (a := (l.set i l[j]).map (mkV true Lease_tfs)) (by rw [Nat.zero_add, Int.toNat_natCast]; exact stRow_map (fs := Lease_tfs) l i (by omega) l[j]) rfl
theorem pcd1_e (l : List Lease_T) (c : pcC) (i j : Nat) (hj : j < l.length) (hi : i ≤ j) (hl : l.length ≤ 100000) : pcd1 l c i j = if pcQ (l[j], c) = true then some (.inl (pcdh true l c i ((j + 1 : Nat) : Int))) else some (.inl (pcdh false (l.set i l[j]) c ((i + 1 : Nat) : Int) ((j + 1 : Nat) : Int))) := by
 refine (pcd1_w l c i j).trans ?_
 unfold pcd1_r
 refine bK_tq (Q := (· = _)) (by simp) (bK_tq (Q := (· = _)) (by simp; omega) (bK_tq (Q := (· = _)) (by simp; omega) ?_))
 refine oK_q (Q := (· = _)) (a := l[j]) (by rw [Nat.zero_add, Int.toNat_natCast, ldRow_map (fs := Lease_tfs) rfl l (0, 0, 0, 0) hj, getD_at hj]) ?_
 refine oK_pkq (Q := (· = _)) pcA_inj (l[j], c) trivial ?_
 rw [w64 (by omega) (by omega), w64 (by omega) (by omega)]
 cases hq : pcQ (l[j], c) with
 | true => rfl
 | false =>
  rw [if_neg (by simp), pcdhs]
  refine bK_tq (Q := (· = _)) rfl (bK_tq (Q := (· = _)) (by simp; omega) ?_)
  exact oK_q (Q := (· = _)) (a := (l.set i l[j]).map (mkV true Lease_tfs)) (by rw [Nat.zero_add, Int.toNat_natCast]; exact stRow_map (fs := Lease_tfs) l i (by omega) l[j]) rfl
theorem pcdl : (loopsOf 0 (codeOf Try.prog 43)).map (·.1) = [0] := by kernel_rfl
theorem pcdo : OneLoops Try.prog 43 := by unfold OneLoops; rw [pcdl]; decide
theorem pcda : At 0 (codeOf Try.prog 43) 0 (.loop (bodyAt Try.prog 43 0)) := at_body pcdo (by rw [pcdl]; decide)
def pclq (c : pcC) : Nat → Bool → List Lease_T → Nat → Nat → Bool
 | 0, q, _, _, _ => q
 | k + 1, q, B, i, j => match B[j]? with
  | none => q
  | some v => if pcQ (v, c) = true then pclq c k true B i (j + 1) else pclq c k false (B.set i v) (i + 1) (j + 1)
theorem pcdr (c : pcC) : ∀ (k : Nat) (q : Bool) (B : List Lease_T) (i j : Nat), i ≤ j → j + k = B.length → B.length ≤ 100000 → ∀ (m : Nat), k < m →
  Runs' Try.prog cfg pc2 43 0 m (pcdh q B c i j) (pcdx (pclq c k q B i j) (delN (fun w => pcQ (w, c)) k B i j).1 c ((delN (fun w => pcQ (w, c)) k B i j).2 : Int))
 | 0, q, B, i, j, hij, hl, hb, m + 1, hm => by
  cases q with
  | false =>
   refine Runs'.done (lp := LP0) LPok.none pcda ((pcd0_w B c i j).trans ?_)
   unfold pcd0_r
   rw [bK_pos (by simp), bK_neg (by simp; omega)]
   rfl
  | true =>
   refine Runs'.done (lp := LP0) LPok.none pcda ((pcd1_w B c i j).trans ?_)
   unfold pcd1_r
   rw [bK_pos (by simp), bK_neg (by simp; omega)]
   rfl
 | k + 1, q, B, i, j, hij, hl, hb, m + 1, hm => by
  have hj : j < B.length := by omega
  have hs : (if q then pcd1 else pcd0) B c i j = if pcQ (B[j], c) = true then some (.inl (pcdh true B c i ((j + 1 : Nat) : Int))) else some (.inl (pcdh false (B.set i B[j]) c ((i + 1 : Nat) : Int) ((j + 1 : Nat) : Int))) := by
   cases q with
   | true => exact pcd1_e B c i j hj hij hb
   | false => exact pcd0_e B c i j hj hij hb
  have hs' : ∀ r, (if q then pcd1 else pcd0) B c i j = r → stepK Try.prog cfg pc2 LP0 43 0 (pcdh q B c i j) = r := by
   intro r hr
   cases q with
   | true => exact hr
   | false => exact hr
  unfold pclq delN
  rw [List.getElem?_eq_getElem hj]
  simp only
  cases hq : pcQ (B[j], c) with
  | true =>
   rw [hq, if_pos rfl] at hs
   simp only [if_true]
   exact Runs'.step (lp := LP0) LPok.none pcda (hs' _ hs) (pcdr c k true B i (j + 1) (by omega) (by omega) hb m (by omega))
  | false =>
   rw [hq] at hs
   rw [if_neg (show ¬ (false = true) by simp)] at hs
   simp only [Bool.false_eq_true, if_false]
   exact Runs'.step (lp := LP0) LPok.none pcda (hs' _ hs) (pcdr c k false (B.set i B[j]) (i + 1) (j + 1) (by omega) (by simp; omega) (by simpa using hb) m (by omega))
abbrev pcdD : Type := List Lease_T × pcC × Int × Int
def pcdq (d : pcdD) : Bool := pclq d.2.1 (d.1.length - d.2.2.2.toNat) false d.1 d.2.2.1.toNat d.2.2.2.toNat
def pcdw (d : pcdD) : List Lease_T := (delN (fun w => pcQ (w, d.2.1)) (d.1.length - d.2.2.2.toNat) d.1 d.2.2.1.toNat d.2.2.2.toNat).1
def pcdn (d : pcdD) : Int := ((delN (fun w => pcQ (w, d.2.1)) (d.1.length - d.2.2.2.toNat) d.1 d.2.2.1.toNat d.2.2.2.toNat).2 : Int)
def pcdH (d : pcdD) : St := pcdh false d.1 d.2.1 d.2.2.1 d.2.2.2
theorem pcdH_inj (d d' : pcdD) (h : pcdH d = pcdH d') : d = d' := by
 obtain ⟨l, c, i, j⟩ := d
 obtain ⟨l', c', i', j'⟩ := d'
 simp only [pcdH, pcdh, pcbs, pcRow, boxB, Bool.false_eq_true, if_false, St.mk.injEq, List.cons.injEq, Prod.mk.injEq, Blk.mk.injEq, AV.int.injEq, and_true, true_and] at h
 obtain ⟨⟨h1, h2, h3⟩, h4, h5⟩ := h
 have e1 := map_inj (fs := Lease_tfs) rfl h4
 have e2 : c = c' := by exact h5
 rw [e1, e2, h2, h3]
noncomputable def pcdL : LP := LP.of pcdH (fun d => 0 ≤ d.2.2.1 ∧ d.2.2.1 ≤ d.2.2.2 ∧ d.2.2.2 ≤ (d.1.length : Int) ∧ d.1.length ≤ 100000) fun d => .ite (pcdq d) (.leaf (.exit 0, { fr := [(0, .sref 1000000 0 0 ((pcdw d).map (mkV true Lease_tfs)).length), (5, .int .i64 (pcdn d))], bs := pcbs true (pcdw d) d.2.1, df := [] })) (.leaf (.exit 0, { fr := [(0, .sref 1000000 0 0 ((pcdw d).map (mkV true Lease_tfs)).length), (5, .int .i64 (pcdn d))], bs := pcbs false (pcdw d) d.2.1, df := [] }))
noncomputable def pcdLP : LPs := LPs.add LP0 43 0 pcdL
theorem pcdLP_ok : LPok Try.prog cfg pc2 pcdLP 43 := LPok.addH LPok.none pcdo (by
 rintro ⟨l, c, i, j⟩ ⟨h1, h2, h3, h4⟩
 simp only at h1 h2 h3 h4
 have hr := pcdr c (l.length - j.toNat) false l i.toNat j.toNat (by omega) (by omega) h4 rounds (by simp only [rounds]; omega)
 have e : (pcdh false l c (i.toNat : Int) (j.toNat : Int)) = pcdH (l, c, i, j) := by
  unfold pcdH
  rw [show (i.toNat : Int) = i by omega, show (j.toNat : Int) = j by omega]
 rw [e] at hr
 simp only [Alt.val]
 have eq1 : pcdq (l, c, i, j) = pclq c (l.length - j.toNat) false l i.toNat j.toNat := rfl
 have hr2 : Runs' Try.prog cfg pc2 43 0 rounds (pcdH (l, c, i, j)) (pcdx (pcdq (l, c, i, j)) (pcdw (l, c, i, j)) c (pcdn (l, c, i, j))) := hr
 cases hq : pcdq (l, c, i, j) with
 | true => rw [hq] at hr2; exact hr2
 | false => rw [hq] at hr2; exact hr2)
noncomputable def pcdu (l : List Lease_T) (c : pcC) : Option Ret := unitQ Try.prog cfg pc2 pcdLP true 43 (pcDA (l, c)).1 (pcDA (l, c)).2
noncomputable def pcdu_r (l : List Lease_T) (c : pcC) : Option Ret :=
 oK (pciP.dec [.sref 1000000 0 0 (mW l).length, .fn 58 [] [pt 1000001]] [(rw4 l), (bx [i6 c])]) fun (d0 : List Wait_T × Int) =>
 bK (decide (pciF d0 = -1)) (some { pan := false, res := .sref 1000000 0 0 (mW l).length, out := [(rw4 d0.1), (bx [i6 d0.2])], new := [] })
 (oK (pcdL.dec (sf [(0, .sref 1000000 0 0 (mW l).length), (1, .fn 58 [] [pt 1000001]), (5, i6 (pciF d0)), (6, i6 (IntKind.i64.wrap (pciF d0 + 1)))] [(1000000, (rw4 d0.1)), (1000001, (bx [i6 d0.2]))])) fun (d1 : List Wait_T × Int × Int × Int) =>
 bK (pcdq d1)
 (bK (decide (0 ≤ pcdn d1))
 (bK (decide ((pcdn d1).toNat ≤ (mW (pcdw d1)).length ∧ 0 + (mW (pcdw d1)).length ≤ (mW (pcdw d1)).length))
 (bK (decide ((pcdn d1).toNat = 0 ∨ 0 + (pcdn d1).toNat < (mW (pcdw d1)).length)) (bK (decide (0 + (pcdn d1).toNat + ((mW (pcdw d1)).length - (pcdn d1).toNat) ≤ (mW (pcdw d1)).length)) (bK (decide (0 ≤ pcdn d1)) (bK (decide (0 ≤ (pcdn d1).toNat ∧ 0 + (pcdn d1).toNat ≤ (List.take (0 + (pcdn d1).toNat) (mW (pcdw d1)) ++ (List.replicate ((mW (pcdw d1)).length - (pcdn d1).toNat) (AV.agg [i6 0, i6 0, i6 0, i6 0]) ++ List.drop (0 + (pcdn d1).toNat + ((mW (pcdw d1)).length - (pcdn d1).toNat)) (mW (pcdw d1)))).length)) (some { pan := false, res := .sref 1000000 0 0 ((pcdn d1).toNat - 0), out := [{ v := 0, k := .row, fz := false, sz := 4, es := List.take (0 + (pcdn d1).toNat) (mW (pcdw d1)) ++ (List.replicate ((mW (pcdw d1)).length - (pcdn d1).toNat) (AV.agg [i6 0, i6 0, i6 0, i6 0]) ++ List.drop (0 + (pcdn d1).toNat + ((mW (pcdw d1)).length - (pcdn d1).toNat)) (mW (pcdw d1))) }, (bx [i6 d1.2.1])], new := [] }) none) none) none)
 (bK (decide (0 ≤ pcdn d1)) (bK (decide (0 ≤ (pcdn d1).toNat ∧ 0 + (pcdn d1).toNat ≤ (mW (pcdw d1)).length)) (some { pan := false, res := .sref 1000000 0 0 ((pcdn d1).toNat - 0), out := [(rw4 (pcdw d1)), (bx [i6 d1.2.1])], new := [] }) none) none))
 none)
 none)
 (bK (decide (0 ≤ pcdn d1))
 (bK (decide ((pcdn d1).toNat ≤ (mW (pcdw d1)).length ∧ 0 + (mW (pcdw d1)).length ≤ (mW (pcdw d1)).length))
 (bK (decide ((pcdn d1).toNat = 0 ∨ 0 + (pcdn d1).toNat < (mW (pcdw d1)).length)) (bK (decide (0 + (pcdn d1).toNat + ((mW (pcdw d1)).length - (pcdn d1).toNat) ≤ (mW (pcdw d1)).length)) (bK (decide (0 ≤ pcdn d1)) (bK (decide (0 ≤ (pcdn d1).toNat ∧ 0 + (pcdn d1).toNat ≤ (List.take (0 + (pcdn d1).toNat) (mW (pcdw d1)) ++ (List.replicate ((mW (pcdw d1)).length - (pcdn d1).toNat) (AV.agg [i6 0, i6 0, i6 0, i6 0]) ++ List.drop (0 + (pcdn d1).toNat + ((mW (pcdw d1)).length - (pcdn d1).toNat)) (mW (pcdw d1)))).length)) (some { pan := false, res := .sref 1000000 0 0 ((pcdn d1).toNat - 0), out := [{ v := 0, k := .row, fz := false, sz := 4, es := List.take (0 + (pcdn d1).toNat) (mW (pcdw d1)) ++ (List.replicate ((mW (pcdw d1)).length - (pcdn d1).toNat) (AV.agg [i6 0, i6 0, i6 0, i6 0]) ++ List.drop (0 + (pcdn d1).toNat + ((mW (pcdw d1)).length - (pcdn d1).toNat)) (mW (pcdw d1))) }, (bx [i6 d1.2.1])], new := [] }) none) none) none)
 (bK (decide (0 ≤ pcdn d1)) (bK (decide (0 ≤ (pcdn d1).toNat ∧ 0 + (pcdn d1).toNat ≤ (mW (pcdw d1)).length)) (some { pan := false, res := .sref 1000000 0 0 ((pcdn d1).toNat - 0), out := [(rw4 (pcdw d1)), (bx [i6 d1.2.1])], new := [] }) none) none))
 none)
 none))
theorem pcdu_w (l : List Lease_T) (c : pcC) : pcdu l c = pcdu_r l c := by kernel_rfl

def pckF (d : List Lease_T × pcC) : List Lease_T := d.1.filter fun w => !pcQ (w, d.2)
def pckZ (d : List Lease_T × pcC) : List Lease_T := keepZ (fun w => pcQ (w, d.2)) (0, 0, 0, 0) d.1
noncomputable def pcdP : PK := PK.of pcDA (fun d => 1 ≤ d.1.length ∧ d.1.length ≤ 100000) fun d => .leaf { pan := false, res := .sref outBase 0 0 (pckF d).length, out := pcRow (pckZ d) :: pcB d.2, new := [] }
theorem pcdO (d : List Lease_T × pcC) (h : 1 ≤ d.1.length ∧ d.1.length ≤ 100000) : CallOk Try.prog 43 (pcDA d).1 (pcDA d).2 { pan := false, res := .sref outBase 0 0 (pckF d).length, out := pcRow (pckZ d) :: pcB d.2, new := [] } := by
 obtain ⟨l, c⟩ := d
 obtain ⟨h1, h2⟩ := h
 simp only at h1 h2
 refine CallOk.unit (fnOk pc2_ok 21) rfl pcdLP_ok.loops (o := true) (by show 2 ≤ 1000; decide) ((pcdu_w l c).trans ?_)
 unfold pcdu_r
 refine oK_pkq (Q := (· = _)) pcDA_inj (l, c) ⟨h1, h2⟩ ?_
 have hF : pciF (l, c) = firstN (fun w => pcQ (w, c)) l 0 := rfl
 have hk : pckF (l, c) = l.filter fun w => !pcQ (w, c) := rfl
 rcases firstN_ge (fun w => pcQ (w, c)) l 0 (by omega) with ⟨e1, e2⟩ | ⟨n, hn, e1, e2, e3⟩
 ·obtain ⟨k1, k2⟩ := keepZ_none (z := ((0, 0, 0, 0) : Lease_T)) e2
  have hz : pckZ (l, c) = l := k1
  rw [bK_pos (by rw [hF, e1]; rfl), hz, hk, k2, List.length_map]
  rfl
 ·rw [hF, e1, Int.zero_add]
  rw [bK_neg (decide_eq_false (by omega)), w64 (by omega) (by omega)]
  refine oK_lpq (Q := (· = _)) pcdH_inj (l, c, (n : Int), (n : Int) + 1) ⟨by show (0 : Int) ≤ (n : Int); omega, by show (n : Int) ≤ (n : Int) + 1; omega, by show (n : Int) + 1 ≤ (l.length : Int); omega, h2⟩ ?_
  obtain ⟨d1, d2, d3⟩ := delN_spec (fun w => pcQ (w, c)) (l.length - (n + 1)) l n (n + 1) (by omega) (by omega)
  have hf := filter_take_none (p := fun w => pcQ (w, c)) hn e2 e3
  rw [← hf] at d3
  have hw : pcdw (l, c, (n : Int), (n : Int) + 1) = (delN (fun w => pcQ (w, c)) (l.length - (n + 1)) l n (n + 1)).1 := by
   unfold pcdw
   simp only
   rw [show ((n : Int) + 1).toNat = n + 1 by omega, Int.toNat_natCast]
  have hn' : pcdn (l, c, (n : Int), (n : Int) + 1) = ((delN (fun w => pcQ (w, c)) (l.length - (n + 1)) l n (n + 1)).2 : Int) := by
   unfold pcdn
   simp only
   rw [show ((n : Int) + 1).toNat = n + 1 by omega, Int.toNat_natCast]
  have hle := List.length_filter_le (fun a => !pcQ (a, c)) (l.drop (n + 1))
  rw [List.length_drop] at hle
  generalize delN (fun w => pcQ (w, c)) (l.length - (n + 1)) l n (n + 1) = y at d1 d2 d3 hw hn'
  obtain ⟨W, m⟩ := y
  simp only at d1 d2 d3 hw hn'
  rw [hw, hn', Int.toNat_natCast]
  have hm : m = (l.filter fun w => !pcQ (w, c)).length := by rw [← d3, List.length_take]; omega
  have hes := clear_eq (mkV true Lease_tfs) W _ m (0, 0, 0, 0) d3 hm
  have hz : pckZ (l, c) = (l.filter fun w => !pcQ (w, c)) ++ List.replicate (W.length - (l.filter fun w => !pcQ (w, c)).length) (0, 0, 0, 0) := by rw [d1]; rfl
  refine bK_bq (Q := (· = _)) (fun _ => ?_) (fun _ => ?_)
  ·refine bK_tq (Q := (· = _)) (decide_eq_true (by omega)) (bK_tq (Q := (· = _)) (decide_eq_true (by simp; omega)) (bK_tq (Q := (· = _)) (decide_eq_true (by simp; omega)) (bK_tq (Q := (· = _)) (decide_eq_true (by simp; omega)) (bK_tq (Q := (· = _)) (decide_eq_true (by omega)) ?_))))
   refine bK_tq (Q := (· = _)) (decide_eq_true (by simp; omega)) ?_
   rw [hk, ← hm]
   unfold pcRow
   rw [hz, ← hes]
   rfl
  ·refine bK_tq (Q := (· = _)) (decide_eq_true (by omega)) (bK_tq (Q := (· = _)) (decide_eq_true (by simp; omega)) (bK_tq (Q := (· = _)) (decide_eq_true (by simp; omega)) (bK_tq (Q := (· = _)) (decide_eq_true (by simp; omega)) (bK_tq (Q := (· = _)) (decide_eq_true (by omega)) ?_))))
   refine bK_tq (Q := (· = _)) (decide_eq_true (by simp; omega)) ?_
   rw [hk, ← hm]
   unfold pcRow
   rw [hz, ← hes]
   rfl

end Go.Proofs.Ytkanmigbbpppnaa
