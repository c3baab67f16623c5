/- A part of the proof: contracts of functions. -/
import Derived.Test.YtkanmigbbpppnaaZw
import Derived.Test.YtkanmigbbpppnaaAbAny

set_option linter.unusedVariables false
set_option linter.unusedSimpArgs false
set_option maxRecDepth 100000
namespace Go.Proofs.Ytkanmigbbpppnaa
open Go Go.Ab
abbrev plCw : Type := Int
abbrev plDw : Type := Wait_T × plCw
def plBw (c : plCw) : List Blk := [boxB [.int .i64 c]]
def plAw (d : plDw) : List AV × List Blk := (.agg (Tu.mk Wait_tfs d.1) :: [.ptr (outBase + 0) 0 0 0], plBw d.2)
noncomputable def plcuw (w : Wait_T) (c : plCw) : Option Ret := unitQ Try.prog cfg PKz LP0 false 65 (plAw (w, c)).1 (plAw (w, c)).2
noncomputable def plcuw_r (w : Wait_T) (c : plCw) : Option Ret :=
 some { pan := false, res := .bool (decide (w.1 = c)), out := [(bx [i6 c])], new := [] }
theorem plcuw_w (w : Wait_T) (c : plCw) : plcuw w c = plcuw_r w c := by kernel_rfl

def plQw (d : plDw) : Bool := decide (d.1.1 = d.2)
noncomputable def plPw : PK := PK.of plAw (fun _ => True) fun d => .leaf { pan := false, res := .bool (plQw d), out := plBw d.2, new := [] }
noncomputable def pl1w : PKs := PKz.add 65 plPw
theorem pl1_okw : PKsOk Try.prog pl1w := PKsOk.any PKz_ok 65 plAw _ _ fun d _ => CallOk.unit (fnOk PKz_ok 21) rfl fLoops_none (by show 1 ≤ 1000; decide) (by exact plcuw_w d.1 d.2)
theorem plA_injw (d d' : plDw) (h : plAw d = plAw d') : d = d' := by
 obtain ⟨w, c⟩ := d
 obtain ⟨w', c'⟩ := d'
 simp only [plAw, plBw, boxB, List.cons.injEq, Prod.mk.injEq, AV.agg.injEq, Blk.mk.injEq, AV.int.injEq, and_true, true_and] at h
 refine Prod.ext (mk_inj (fs := Wait_tfs) rfl h.1) ?_
 exact h.2
abbrev plEw : Type := (Bool × List Wait_T) × plCw
def plXAw (d : plEw) : List AV × List Blk := ([.slc d.1.1 (d.1.2.map (mkV true Wait_tfs)), .fn 65 [] [.ptr (outBase + 0) 0 0 0]], plBw d.2)
theorem plXA_injw (d d' : plEw) (h : plXAw d = plXAw d') : d = d' := by
 obtain ⟨⟨x, l⟩, c⟩ := d
 obtain ⟨⟨x', l'⟩, c'⟩ := d'
 simp only [plXAw, plBw, boxB, List.cons.injEq, Prod.mk.injEq, AV.slc.injEq, Blk.mk.injEq, AV.int.injEq, and_true, true_and] at h
 have e1 := map_inj (fs := Wait_tfs) rfl h.1.2
 have e2 : c = c' := by exact h.2
 rw [h.1.1, e1, e2]
def plihw (x : Bool) (l : List Wait_T) (c : plCw) (i : Int) : St := { fr := [(0, .slc x (l.map (mkV true Wait_tfs))), (1, .fn 65 [] [AV.ptr 1000000 0 0 0]), (7, .int .i64 (((l.map (mkV true Wait_tfs)).length : Nat) : Int)), (8, .int .i64 i)], bs := [(1000000, boxB [.int .i64 c])], df := [] }
noncomputable def pli0w (x : Bool) (l : List Wait_T) (c : plCw) (i : Int) : Option (St ⊕ (Ex × St)) := stepK Try.prog cfg pl1w LP0 30 0 (plihw x l c i)
noncomputable def pli0w_r (x : Bool) (l : List Wait_T) (c : plCw) (i : Int) : Option (St ⊕ Ex × St) :=
 bK (decide (i < (↑(mW l).length : Int))) (oK (elemAt true Wait_tfs (mW l) i) fun (d0 : Int × Int × Int × Int) => oK (plPw.dec [AV.agg [i6 d0.1, i6 d0.2.1, i6 d0.2.2.1, i6 d0.2.2.2], pt 1000000] [(bx [i6 c])]) fun (d1 : (Int × Int × Int × Int) × Int) => bK (plQw d1) (some (.inr (.ret, (sf [(4, i6 i)] [(1000000, (bx [i6 d1.2]))])))) (some (.inl (sf [(0, sl x l), (1, .fn 65 [] [pt 1000000]), (7, i6 (↑(mW l).length : Int)), (8, i6 (IntKind.i64.wrap (i + 1)))] [(1000000, (bx [i6 d1.2]))])))) (some (.inr (.exit 0, (sf [] [(1000000, (bx [i6 c]))]))))
theorem pli0w_w (x : Bool) (l : List Wait_T) (c : plCw) (i : Int) : pli0w x l c i = pli0w_r x l c i := by kernel_rfl

def pliyw (c : plCw) (k : Int) : Ex × St := if 0 ≤ k then (.ret, { fr := [(4, .int .i64 k)], bs := [(1000000, boxB [.int .i64 c])], df := [] }) else (.exit 0, { fr := [], bs := [(1000000, boxB [.int .i64 c])], df := [] })
theorem pli0_ew (x : Bool) (l : List Wait_T) (c : plCw) (i : Nat) (hi : i < l.length) (hl : l.length ≤ 100000) : pli0w x l c i = if plQw (l[i], c) = true then some (.inr (pliyw c i)) else some (.inl (plihw x l c ((i + 1 : Nat) : Int))) := by
 refine (pli0w_w x l c i).trans ?_
 unfold pli0w_r
 refine bK_tq (Q := (· = _)) (by simp; omega) ?_
 refine oK_atq (Q := (· = _)) (fs := Wait_tfs) (0, 0, 0, 0) (by omega) (by simpa using hi) ?_
 rw [Int.toNat_natCast, getD_at hi]
 refine oK_pkq (Q := (· = _)) plA_injw (l[i], c) trivial ?_
 rw [w64 (by omega) (by omega)]
 cases hq : plQw (l[i], c) with
 | true => rw [if_pos rfl]; unfold pliyw; rw [if_pos (by omega)]; rfl
 | false => rfl
theorem plilw : (loopsOf 0 (codeOf Try.prog 30)).map (·.1) = [0] := by kernel_rfl
theorem pliow : OneLoops Try.prog 30 := by unfold OneLoops; rw [plilw]; decide
theorem pliaw : At 0 (codeOf Try.prog 30) 0 (.loop (bodyAt Try.prog 30 0)) := at_body pliow (by rw [plilw]; decide)
theorem plirw (x : Bool) (l : List Wait_T) (c : plCw) (hl : l.length ≤ 100000) : ∀ (j i : Nat), i + j = l.length → ∀ (m : Nat), j < m → Runs' Try.prog cfg pl1w 30 0 m (plihw x l c i) (pliyw c (firstN (fun w => plQw (w, c)) (l.drop i) i))
 | 0, i, hi, m + 1, hm => by
  rw [List.drop_of_length_le (by omega)]
  refine Runs'.done (lp := LP0) LPok.none pliaw ((pli0w_w x l c i).trans ?_)
  unfold pli0w_r
  rw [bK_neg (by simp; omega)]
  rfl
 | j + 1, i, hi, m + 1, hm => by
  have hi' : i < l.length := by omega
  have e : l.drop i = l[i] :: l.drop (i + 1) := List.drop_eq_getElem_cons hi'
  have hs := pli0_ew x l c i hi' hl
  rw [e]
  unfold firstN
  cases hq : plQw (l[i], c) with
  | true =>
   rw [hq, if_pos rfl] at hs
   rw [if_pos rfl]
   exact Runs'.done (lp := LP0) LPok.none pliaw hs
  | false =>
   rw [hq, if_neg (by simp)] at hs
   rw [if_neg (by simp)]
   exact Runs'.step (lp := LP0) LPok.none pliaw hs (plirw x l c hl j (i + 1) (by omega) m (by omega))
def pliFw (d : plEw) : Int := firstN (fun w => plQw (w, d.2)) d.1.2 0
def pliHw (d : plEw) : St := plihw d.1.1 d.1.2 d.2 0
theorem pliH_injw (d d' : plEw) (h : pliHw d = pliHw d') : d = d' := by
 obtain ⟨⟨x, l⟩, c⟩ := d
 obtain ⟨⟨x', l'⟩, c'⟩ := d'
 simp only [pliHw, plihw, boxB, St.mk.injEq, List.cons.injEq, Prod.mk.injEq, AV.slc.injEq, Blk.mk.injEq, AV.int.injEq, and_true, true_and] at h
 have e1 := map_inj (fs := Wait_tfs) rfl h.1.1.2
 have e2 : c = c' := by exact h.2
 rw [h.1.1.1, e1, e2]
noncomputable def pliLw : LP := LP.of pliHw (fun d => d.1.2.length ≤ 100000) fun d => .ite (decide (0 ≤ pliFw d)) (.leaf (.ret, { fr := [(4, .int .i64 (pliFw d))], bs := [(1000000, boxB [.int .i64 d.2])], df := [] })) (.leaf (.exit 0, { fr := [], bs := [(1000000, boxB [.int .i64 d.2])], df := [] }))
noncomputable def pliLPw : LPs := LPs.add LP0 30 0 pliLw
theorem pliLP_okw : LPok Try.prog cfg pl1w pliLPw 30 := LPok.addH LPok.none pliow (by
 rintro ⟨⟨x, l⟩, c⟩ h
 have h2 : l.length ≤ 100000 := h
 have key : Runs' Try.prog cfg pl1w 30 0 rounds (pliHw ((x, l), c)) (pliyw c (pliFw ((x, l), c))) := by
  have := plirw x l c h2 l.length 0 (by omega) rounds (by simp only [rounds]; omega)
  rw [List.drop_zero] at this
  exact this
 unfold pliyw at key
 simp only [Alt.val]
 by_cases hq : 0 ≤ pliFw ((x, l), c)
 ·rw [if_pos hq] at key; rw [decide_eq_true hq]; exact key
 ·rw [if_neg hq] at key; rw [decide_eq_false hq]; exact key)
noncomputable def pliuw (x : Bool) (l : List Wait_T) (c : plCw) : Option Ret := unitQ Try.prog cfg pl1w pliLPw true 30 (plXAw ((x, l), c)).1 (plXAw ((x, l), c)).2
noncomputable def pliuw_r (x : Bool) (l : List Wait_T) (c : plCw) : Option Ret :=
 oK (pliLw.dec (sf [(0, sl x l), (1, .fn 65 [] [pt 1000000]), (7, i6 (↑(mW l).length : Int)), (8, i6 0)] [(1000000, (bx [i6 c]))])) fun (d0 : LW × Int) => bK (decide (0 ≤ pliFw d0)) (some { pan := false, res := i6 (pliFw d0), out := [(bx [i6 d0.2])], new := [] }) (some { pan := false, res := i6 (-1), out := [(bx [i6 d0.2])], new := [] })
theorem pliuw_w (x : Bool) (l : List Wait_T) (c : plCw) : pliuw x l c = pliuw_r x l c := by kernel_rfl

noncomputable def pliPw : PK := PK.of plXAw (fun d => d.1.2.length ≤ 100000) fun d => .leaf { pan := false, res := .int .i64 (pliFw d), out := plBw d.2, new := [] }
theorem pliF_ltw (d : plEw) : pliFw d = -1 ∨ (0 ≤ pliFw d ∧ pliFw d < d.1.2.length) := firstN_lt _ _
theorem pliOw (d : plEw) (h : d.1.2.length ≤ 100000) : CallOk Try.prog 30 (plXAw d).1 (plXAw d).2 { pan := false, res := .int .i64 (pliFw d), out := plBw d.2, new := [] } := by
 obtain ⟨⟨x, l⟩, c⟩ := d
 refine CallOk.unit (fnOk pl1_okw 21) rfl pliLP_okw.loops (o := true) (by show 1 ≤ 1000; decide) ((pliuw_w x l c).trans ?_)
 unfold pliuw_r
 refine oK_lpq (Q := (· = _)) pliH_injw ((x, l), c) h ?_
 refine bK_i (fun _ => rfl) (fun hn => ?_)
 have e : pliFw ((x, l), c) = -1 := by
  rcases pliF_ltw ((x, l), c) with h | h
  ·exact h
  ·exact absurd h.1 hn
 rw [e]
 rfl
noncomputable def PKpw : PKs := PKz.add 30 pliPw
theorem PKp_okw : PKsOk Try.prog PKpw := PKsOk.any PKz_ok 30 plXAw _ _ pliOw
abbrev placew_id : Nat := 56
abbrev placew_sh : Shp := [none, none]
abbrev placew_fs : List Lf := [.fl true Wait_tfs, .fi .i64]
abbrev placew_rsh : Shp := [none]
abbrev placew_rfs : List Lf := [.fi .i64]
noncomputable def placew_r (l_x : Bool) (l : List Wait_T) (client : Int) : Option Ret :=
 oK (pliPw.dec [sl l_x l, .fn 65 [] [pt 1000000]] [(bx [i6 client])]) fun (d0 : LW × Int) => some (rt (i6 (pliFw d0)))
theorem placew_w (l_x : Bool) (l : List Wait_T) (client : Int) : unitQ Try.prog cfg PKpw LP0 false 56 (groupA placew_sh (Tu.mk placew_fs ((l_x, l), client))) [] = placew_r l_x l client := by kernel_rfl

end Go.Proofs.Ytkanmigbbpppnaa
