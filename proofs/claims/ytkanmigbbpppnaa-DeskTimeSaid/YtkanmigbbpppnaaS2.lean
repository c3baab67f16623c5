/- A part of the proof: contracts of functions. -/
import Derived.Test.YtkanmigbbpppnaaD
import Derived.Test.YtkanmigbbpppnaaAbAny

set_option linter.unusedVariables false
set_option linter.unusedSimpArgs false
set_option maxRecDepth 100000
namespace Go.Proofs.Ytkanmigbbpppnaa
open Go Go.Ab
noncomputable def Rn1 : PKs := PKz.add 32 dmayS.pk
theorem Rn1_ok : PKsOk Try.prog Rn1 := PKsOk.anyF PKz_ok 32 dmayS dmayO
abbrev ixC : Type := Desk_T × Int
abbrev ixD : Type := Wait_T × ixC
def ixpre (c : ixC) : Prop := c.1.1.2.length ≤ 1000 ∧ c.1.2.2.length ≤ 1000
def ixB (c : ixC) : List Blk := [boxB (Tu.mk Desk_tfs c.1), boxB [.int .i64 c.2]]
def ixA (d : ixD) : List AV × List Blk := (.agg (Tu.mk Wait_tfs d.1) :: [.ptr (outBase + 0) 0 0 0, .ptr (outBase + 1) 0 0 0], ixB d.2)
noncomputable def ixcu (w : Wait_T) (c : ixC) : Option Ret := unitQ Try.prog cfg Rn1 LP0 false 31 (ixA (w, c)).1 (ixA (w, c)).2
noncomputable def ixcu_r (w : Wait_T) (c : ixC) : Option Ret :=
 oK (dmayS.dec [AV.agg [sl c.1.1.1 c.1.1.2, sl c.1.2.1 c.1.2.2], i6 c.2, AV.agg [i6 w.1, i6 w.2.1, i6 w.2.2.1, i6 w.2.2.2]] []) fun (d0 : LW × LW × Int × Int × Int × Int × Int) => some { pan := false, res := .bool (mayQd d0.1.2 d0.2.1.2 d0.2.2.1 d0.2.2.2), out := [(bx [sl c.1.1.1 c.1.1.2, sl c.1.2.1 c.1.2.2]), (bx [i6 c.2])], new := [] }
theorem ixcu_w (w : Wait_T) (c : ixC) : ixcu w c = ixcu_r w c := by kernel_rfl

def ixQ (d : ixD) : Bool := mayQd d.2.1.1.2 d.2.1.2.2 d.2.2 d.1
noncomputable def ixP : PK := PK.of ixA (fun d => ixpre d.2) fun d => .leaf { pan := false, res := .bool (ixQ d), out := ixB d.2, new := [] }
noncomputable def ix1 : PKs := Rn1.add 31 ixP
theorem ix1_ok : PKsOk Try.prog ix1 := PKsOk.any Rn1_ok 31 ixA _ _ fun d hd => CallOk.unit (fnOk Rn1_ok 21) rfl fLoops_none (by show 2 ≤ 1000; decide) (by 
 obtain ⟨w, ⟨⟨lx, L⟩, ⟨wx, W⟩⟩, now⟩ := d
 have hd1 : L.length ≤ 1000 := hd.1
 have hd2 : W.length ≤ 1000 := hd.2
 refine (ixcu_w w (((lx, L), (wx, W)), now)).trans ?_
 unfold ixcu_r
 exact oK_fsq (Q := (· = _)) dmayS ((lx, L), (wx, W), now, w) ⟨by show L.length ≤ 100000; omega, by show W.length ≤ 100000; omega⟩ rfl)
theorem ixA_inj (d d' : ixD) (h : ixA d = ixA d') : d = d' := by
 obtain ⟨w, c⟩ := d
 obtain ⟨w', c'⟩ := d'
 simp only [ixA, ixB, boxB, List.cons.injEq, Prod.mk.injEq, AV.agg.injEq, Blk.mk.injEq, AV.int.injEq, and_true, true_and] at h
 refine Prod.ext (mk_inj (fs := Wait_tfs) rfl h.1) ?_
 exact Prod.ext (mk_inj (fs := Desk_tfs) rfl h.2.1) h.2.2
abbrev ixE : Type := (Bool × List Wait_T) × ixC
def ixXA (d : ixE) : List AV × List Blk := ([.slc d.1.1 (d.1.2.map (mkV true Wait_tfs)), .fn 31 [] [.ptr (outBase + 0) 0 0 0, .ptr (outBase + 1) 0 0 0]], ixB d.2)
theorem ixXA_inj (d d' : ixE) (h : ixXA d = ixXA d') : d = d' := by
 obtain ⟨⟨x, l⟩, c⟩ := d
 obtain ⟨⟨x', l'⟩, c'⟩ := d'
 simp only [ixXA, ixB, boxB, List.cons.injEq, Prod.mk.injEq, AV.slc.injEq, Blk.mk.injEq, AV.int.injEq, and_true, true_and] at h
 have e1 := map_inj (fs := Wait_tfs) rfl h.1.2
 have e2 : c = c' := by exact Prod.ext (mk_inj (fs := Desk_tfs) rfl h.2.1) h.2.2
 rw [h.1.1, e1, e2]
def ixih (x : Bool) (l : List Wait_T) (c : ixC) (i : Int) : St := { fr := [(0, .slc x (l.map (mkV true Wait_tfs))), (1, .fn 31 [] [AV.ptr 1000000 0 0 0, AV.ptr 1000001 0 0 0]), (7, .int .i64 (((l.map (mkV true Wait_tfs)).length : Nat) : Int)), (8, .int .i64 i)], bs := [(1000000, boxB (Tu.mk Desk_tfs c.1)), (1000001, boxB [.int .i64 c.2])], df := [] }
noncomputable def ixi0 (x : Bool) (l : List Wait_T) (c : ixC) (i : Int) : Option (St ⊕ (Ex × St)) := stepK Try.prog cfg ix1 LP0 30 0 (ixih x l c i)
noncomputable def ixi0_r (x : Bool) (l : List Wait_T) (c : ixC) (i : Int) : Option (St ⊕ Ex × St) :=
 bK (decide (i < (↑(mW l).length : Int)))
 (oK (elemAt true Wait_tfs (mW l) i) fun (d0 : Int × Int × Int × Int) =>
 oK (ixP.dec [AV.agg [i6 d0.1, i6 d0.2.1, i6 d0.2.2.1, i6 d0.2.2.2], pt 1000000, pt 1000001] [(bx [sl c.1.1.1 c.1.1.2, sl c.1.2.1 c.1.2.2]), (bx [i6 c.2])]) fun (d1 : (Int × Int × Int × Int) × Desk_T × Int) =>
 bK (ixQ d1) (some (.inr (.ret, (sf [(4, i6 i)] [(1000000, (bx [sl d1.2.1.1.1 d1.2.1.1.2, sl d1.2.1.2.1 d1.2.1.2.2])), (1000001, (bx [i6 d1.2.2]))])))) (some (.inl (sf [(0, sl x l), (1, .fn 31 [] [pt 1000000, pt 1000001]), (7, i6 (↑(mW l).length : Int)), (8, i6 (IntKind.i64.wrap (i + 1)))] [(1000000, (bx [sl d1.2.1.1.1 d1.2.1.1.2, sl d1.2.1.2.1 d1.2.1.2.2])), (1000001, (bx [i6 d1.2.2]))]))))
 (some (.inr (.exit 0, (sf [] [(1000000, (bx [sl c.1.1.1 c.1.1.2, sl c.1.2.1 c.1.2.2])), (1000001, (bx [i6 c.2]))]))))
theorem ixi0_w (x : Bool) (l : List Wait_T) (c : ixC) (i : Int) : ixi0 x l c i = ixi0_r x l c i := by kernel_rfl

def ixiy (c : ixC) (k : Int) : Ex × St := if 0 ≤ k then (.ret, { fr := [(4, .int .i64 k)], bs := [(1000000, boxB (Tu.mk Desk_tfs c.1)), (1000001, boxB [.int .i64 c.2])], df := [] }) else (.exit 0, { fr := [], bs := [(1000000, boxB (Tu.mk Desk_tfs c.1)), (1000001, boxB [.int .i64 c.2])], df := [] })
theorem ixi0_e (x : Bool) (l : List Wait_T) (c : ixC) (i : Nat) (hi : i < l.length) (hl : l.length ≤ 100000) (hc : ixpre c) : ixi0 x l c i = if ixQ (l[i], c) = true then some (.inr (ixiy c i)) else some (.inl (ixih x l c ((i + 1 : Nat) : Int))) := by
 refine (ixi0_w x l c i).trans ?_
 unfold ixi0_r
 refine bK_tq (Q := (· = _)) (by simp; omega) ?_
 refine oK_atq (Q := (· = _)) (fs := Wait_tfs) (0, 0, 0, 0) (by omega) (by simpa using hi) ?_
 rw [Int.toNat_natCast, getD_at hi]
 refine oK_pkq (Q := (· = _)) ixA_inj (l[i], c) hc ?_
 rw [w64 (by omega) (by omega)]
 cases hq : ixQ (l[i], c) with
 | true => rw [if_pos rfl]; unfold ixiy; rw [if_pos (by omega)]; rfl
 | false => rfl
theorem ixil : (loopsOf 0 (codeOf Try.prog 30)).map (·.1) = [0] := by kernel_rfl
theorem ixio : OneLoops Try.prog 30 := by unfold OneLoops; rw [ixil]; decide
theorem ixia : At 0 (codeOf Try.prog 30) 0 (.loop (bodyAt Try.prog 30 0)) := at_body ixio (by rw [ixil]; decide)
theorem ixir (x : Bool) (l : List Wait_T) (c : ixC) (hl : l.length ≤ 100000) (hc : ixpre c) : ∀ (j i : Nat), i + j = l.length → ∀ (m : Nat), j < m → Runs' Try.prog cfg ix1 30 0 m (ixih x l c i) (ixiy c (firstN (fun w => ixQ (w, c)) (l.drop i) i))
 | 0, i, hi, m + 1, hm => by
  rw [List.drop_of_length_le (by omega)]
  refine Runs'.done (lp := LP0) LPok.none ixia ((ixi0_w x l c i).trans ?_)
  unfold ixi0_r
  rw [bK_neg (by simp; omega)]
  rfl
 | j + 1, i, hi, m + 1, hm => by
  have hi' : i < l.length := by omega
  have e : l.drop i = l[i] :: l.drop (i + 1) := List.drop_eq_getElem_cons hi'
  have hs := ixi0_e x l c i hi' hl hc
  rw [e]
  unfold firstN
  cases hq : ixQ (l[i], c) with
  | true =>
   rw [hq, if_pos rfl] at hs
   rw [if_pos rfl]
   exact Runs'.done (lp := LP0) LPok.none ixia hs
  | false =>
   rw [hq, if_neg (by simp)] at hs
   rw [if_neg (by simp)]
   exact Runs'.step (lp := LP0) LPok.none ixia hs (ixir x l c hl hc j (i + 1) (by omega) m (by omega))
def ixiF (d : ixE) : Int := firstN (fun w => ixQ (w, d.2)) d.1.2 0
def ixiH (d : ixE) : St := ixih d.1.1 d.1.2 d.2 0
theorem ixiH_inj (d d' : ixE) (h : ixiH d = ixiH d') : d = d' := by
 obtain ⟨⟨x, l⟩, c⟩ := d
 obtain ⟨⟨x', l'⟩, c'⟩ := d'
 simp only [ixiH, ixih, boxB, St.mk.injEq, List.cons.injEq, Prod.mk.injEq, AV.slc.injEq, Blk.mk.injEq, AV.int.injEq, and_true, true_and] at h
 have e1 := map_inj (fs := Wait_tfs) rfl h.1.1.2
 have e2 : c = c' := by exact Prod.ext (mk_inj (fs := Desk_tfs) rfl h.2.1) h.2.2
 rw [h.1.1.1, e1, e2]
noncomputable def ixiL : LP := LP.of ixiH (fun d => d.1.2.length ≤ 100000 ∧ ixpre d.2) fun d => .ite (decide (0 ≤ ixiF d)) (.leaf (.ret, { fr := [(4, .int .i64 (ixiF d))], bs := [(1000000, boxB (Tu.mk Desk_tfs d.2.1)), (1000001, boxB [.int .i64 d.2.2])], df := [] })) (.leaf (.exit 0, { fr := [], bs := [(1000000, boxB (Tu.mk Desk_tfs d.2.1)), (1000001, boxB [.int .i64 d.2.2])], df := [] }))
noncomputable def ixiLP : LPs := LPs.add LP0 30 0 ixiL
theorem ixiLP_ok : LPok Try.prog cfg ix1 ixiLP 30 := LPok.addH LPok.none ixio (by
 rintro ⟨⟨x, l⟩, c⟩ h
 obtain ⟨h2, hc⟩ := h
 simp only at h2 hc
 have key : Runs' Try.prog cfg ix1 30 0 rounds (ixiH ((x, l), c)) (ixiy c (ixiF ((x, l), c))) := by
  have := ixir x l c h2 hc l.length 0 (by omega) rounds (by simp only [rounds]; omega)
  rw [List.drop_zero] at this
  exact this
 unfold ixiy at key
 simp only [Alt.val]
 by_cases hq : 0 ≤ ixiF ((x, l), c)
 ·rw [if_pos hq] at key; rw [decide_eq_true hq]; exact key
 ·rw [if_neg hq] at key; rw [decide_eq_false hq]; exact key)
noncomputable def ixiu (x : Bool) (l : List Wait_T) (c : ixC) : Option Ret := unitQ Try.prog cfg ix1 ixiLP true 30 (ixXA ((x, l), c)).1 (ixXA ((x, l), c)).2
noncomputable def ixiu_r (x : Bool) (l : List Wait_T) (c : ixC) : Option Ret :=
 oK (ixiL.dec (sf [(0, sl x l), (1, .fn 31 [] [pt 1000000, pt 1000001]), (7, i6 (↑(mW l).length : Int)), (8, i6 0)] [(1000000, (bx [sl c.1.1.1 c.1.1.2, sl c.1.2.1 c.1.2.2])), (1000001, (bx [i6 c.2]))])) fun (d0 : LW × Desk_T × Int) => bK (decide (0 ≤ ixiF d0)) (some { pan := false, res := i6 (ixiF d0), out := [(bx [sl d0.2.1.1.1 d0.2.1.1.2, sl d0.2.1.2.1 d0.2.1.2.2]), (bx [i6 d0.2.2])], new := [] }) (some { pan := false, res := i6 (-1), out := [(bx [sl d0.2.1.1.1 d0.2.1.1.2, sl d0.2.1.2.1 d0.2.1.2.2]), (bx [i6 d0.2.2])], new := [] })
theorem ixiu_w (x : Bool) (l : List Wait_T) (c : ixC) : ixiu x l c = ixiu_r x l c := by kernel_rfl

noncomputable def ixiP : PK := PK.of ixXA (fun d => d.1.2.length ≤ 100000 ∧ ixpre d.2) fun d => .leaf { pan := false, res := .int .i64 (ixiF d), out := ixB d.2, new := [] }
theorem ixiF_lt (d : ixE) : ixiF d = -1 ∨ (0 ≤ ixiF d ∧ ixiF d < d.1.2.length) := firstN_lt _ _
theorem ixiO (d : ixE) (h : d.1.2.length ≤ 100000 ∧ ixpre d.2) : CallOk Try.prog 30 (ixXA d).1 (ixXA d).2 { pan := false, res := .int .i64 (ixiF d), out := ixB d.2, new := [] } := by
 obtain ⟨⟨x, l⟩, c⟩ := d
 refine CallOk.unit (fnOk ix1_ok 21) rfl ixiLP_ok.loops (o := true) (by show 2 ≤ 1000; decide) ((ixiu_w x l c).trans ?_)
 unfold ixiu_r
 refine oK_lpq (Q := (· = _)) ixiH_inj ((x, l), c) h ?_
 refine bK_i (fun _ => rfl) (fun hn => ?_)
 have e : ixiF ((x, l), c) = -1 := by
  rcases ixiF_lt ((x, l), c) with h | h
  ·exact h
  ·exact absurd h.1 hn
 rw [e]
 rfl

end Go.Proofs.Ytkanmigbbpppnaa
