/- A part of the proof: contracts of functions. -/
import Derived.Test.YtknikmehfnihpaaZ
import Derived.Test.YtknikmehfnihpaaAbAny

set_option linter.unusedVariables false
set_option linter.unusedSimpArgs false
set_option maxRecDepth 100000
namespace Go.Proofs.Ytknikmehfnihpaa
open Go Go.Ab
abbrev plC : Type := Int
abbrev plD : Type := Wait_T × plC
def plB (c : plC) : List Blk := [boxB [.int .i64 c]]
def plA (d : plD) : List AV × List Blk := (.agg (Tu.mk Wait_tfs d.1) :: [.ptr (outBase + 0) 0 0 0], plB d.2)
noncomputable def plcu (w : Wait_T) (c : plC) : Option Ret := unitQ Try.prog cfg PKz LP0 false 20 (plA (w, c)).1 (plA (w, c)).2
noncomputable def plcu_r (w : Wait_T) (c : plC) : Option Ret :=
  some { pan := false, res := AV.bool (decide (w.fst = c)), out := [{ v := 0, k := BK.box, fz := false, sz := 0, es := [AV.int IntKind.i64 c] }], new := [] }
theorem plcu_w (w : Wait_T) (c : plC) : plcu w c = plcu_r w c := by kernel_rfl

/-- Is it so? -/
def plQ (d : plD) : Bool := decide (d.1.1 = d.2)
noncomputable def plP : PK := PK.of plA (fun _ => True) fun d => .leaf { pan := false, res := .bool (plQ d), out := plB d.2, new := [] }
noncomputable def pl1 : PKs := PKz.add 20 plP
theorem pl1_ok : PKsOk Try.prog pl1 := PKsOk.any PKz_ok 20 plA _ _ fun d _ => CallOk.unit (fnOk PKz_ok 21) rfl fLoops_none (by show 1 ≤ 1000; decide) (by exact plcu_w d.1 d.2)
theorem plA_inj (d d' : plD) (h : plA d = plA d') : d = d' := by
  obtain ⟨w, c⟩ := d
  obtain ⟨w', c'⟩ := d'
  simp only [plA, plB, boxB, List.cons.injEq, Prod.mk.injEq, AV.agg.injEq, Blk.mk.injEq, AV.int.injEq, and_true, true_and] at h
  refine Prod.ext (mk_inj (fs := Wait_tfs) rfl h.1) ?_
  exact h.2
abbrev plE : Type := (Bool × List Wait_T) × plC
def plXA (d : plE) : List AV × List Blk := ([.slc d.1.1 (d.1.2.map (mkV true Wait_tfs)), .fn 20 [] [.ptr (outBase + 0) 0 0 0]], plB d.2)
theorem plXA_inj (d d' : plE) (h : plXA d = plXA d') : d = d' := by
  obtain ⟨⟨x, l⟩, c⟩ := d
  obtain ⟨⟨x', l'⟩, c'⟩ := d'
  simp only [plXA, plB, boxB, List.cons.injEq, Prod.mk.injEq, AV.slc.injEq, Blk.mk.injEq, AV.int.injEq, and_true, true_and] at h
  have e1 := map_inj (fs := Wait_tfs) rfl h.1.2
  have e2 : c = c' := by exact h.2
  rw [h.1.1, e1, e2]
def plih (x : Bool) (l : List Wait_T) (c : plC) (i : Int) : St := { fr := [(0, .slc x (l.map (mkV true Wait_tfs))), (1, .fn 20 [] [AV.ptr 1000000 0 0 0]), (7, .int .i64 (((l.map (mkV true Wait_tfs)).length : Nat) : Int)), (8, .int .i64 i)], bs := [(1000000, boxB [.int .i64 c])], df := [] }
noncomputable def pli0 (x : Bool) (l : List Wait_T) (c : plC) (i : Int) : Option (St ⊕ (Ex × St)) := stepK Try.prog cfg pl1 LP0 19 0 (plih x l c i)
noncomputable def pli0_r (x : Bool) (l : List Wait_T) (c : plC) (i : Int) : Option (St ⊕ Ex × St) :=
  bK (decide (i < (↑(List.map (mkV true Wait_tfs) l).length : Int))) (oK (elemAt true Wait_tfs (List.map (mkV true Wait_tfs) l) i) fun (d0 : Int × Int × Int × Int) => oK (plP.dec [AV.agg [AV.int IntKind.i64 d0.fst, AV.int IntKind.i64 d0.snd.fst, AV.int IntKind.i64 d0.snd.snd.fst, AV.int IntKind.i64 d0.snd.snd.snd], AV.ptr 1000000 0 0 0] [{ v := 0, k := BK.box, fz := false, sz := 0, es := [AV.int IntKind.i64 c] }]) fun (d1 : (Int × Int × Int × Int) × Int) => bK (plQ d1) (some (Sum.inr (Ex.ret, { fr := [(4, AV.int IntKind.i64 i)], bs := [(1000000, { v := 0, k := BK.box, fz := false, sz := 0, es := [AV.int IntKind.i64 d1.snd] })], df := [] }))) (some (Sum.inl { fr := [(0, AV.slc x (List.map (mkV true Wait_tfs) l)), (1, AV.fn 20 [] [AV.ptr 1000000 0 0 0]), (7, AV.int IntKind.i64 (↑(List.map (mkV true Wait_tfs) l).length : Int)), (8, AV.int IntKind.i64 (IntKind.i64.wrap (i + 1)))], bs := [(1000000, { v := 0, k := BK.box, fz := false, sz := 0, es := [AV.int IntKind.i64 d1.snd] })], df := [] }))) (some (Sum.inr (Ex.exit 0, { fr := [], bs := [(1000000, { v := 0, k := BK.box, fz := false, sz := 0, es := [AV.int IntKind.i64 c] })], df := [] })))
theorem pli0_w (x : Bool) (l : List Wait_T) (c : plC) (i : Int) : pli0 x l c i = pli0_r x l c i := by kernel_rfl

def pliy (c : plC) (k : Int) : Ex × St := if 0 ≤ k then (.ret, { fr := [(4, .int .i64 k)], bs := [(1000000, boxB [.int .i64 c])], df := [] }) else (.exit 0, { fr := [], bs := [(1000000, boxB [.int .i64 c])], df := [] })
theorem pli0_e (x : Bool) (l : List Wait_T) (c : plC) (i : Nat) (hi : i < l.length) (hl : l.length ≤ 100000) : pli0 x l c i = if plQ (l[i], c) = true then some (.inr (pliy c i)) else some (.inl (plih x l c ((i + 1 : Nat) : Int))) := by
  refine (pli0_w x l c i).trans ?_
  unfold pli0_r
  refine bK_tq (Q := fun z => z = _) (by simp; omega) ?_
  refine oK_atq (Q := fun z => z = _) (fs := Wait_tfs) (0, 0, 0, 0) (by omega) (by simpa using hi) ?_
  rw [Int.toNat_natCast, getD_at hi]
  refine oK_pkq (Q := fun z => z = _) plA_inj (l[i], c) trivial ?_
  rw [w64 (by omega) (by omega)]
  cases hq : plQ (l[i], c) with
  | true => rw [if_pos rfl]; unfold pliy; rw [if_pos (by omega)]; rfl
  | false => rfl
theorem plil : (loopsOf 0 (codeOf Try.prog 19)).map (·.1) = [0] := by kernel_rfl
theorem plio : OneLoops Try.prog 19 := by unfold OneLoops; rw [plil]; decide
theorem plia : At 0 (codeOf Try.prog 19) 0 (.loop (bodyAt Try.prog 19 0)) := at_body plio (by rw [plil]; decide)
theorem plir (x : Bool) (l : List Wait_T) (c : plC) (hl : l.length ≤ 100000) : ∀ (j i : Nat), i + j = l.length → ∀ (m : Nat), j < m → Runs' Try.prog cfg pl1 19 0 m (plih x l c i) (pliy c (firstN (fun w => plQ (w, c)) (l.drop i) i))
  | 0, i, hi, m + 1, hm => by
    rw [List.drop_of_length_le (by omega)]
    refine Runs'.done (lp := LP0) LPok.none plia ((pli0_w x l c i).trans ?_)
    unfold pli0_r
    rw [bK_neg (by simp; omega)]
    rfl
  | j + 1, i, hi, m + 1, hm => by
    have hi' : i < l.length := by omega
    have e : l.drop i = l[i] :: l.drop (i + 1) := List.drop_eq_getElem_cons hi'
    have hs := pli0_e x l c i hi' hl
    rw [e]
    unfold firstN
    cases hq : plQ (l[i], c) with
    | true =>
      rw [hq, if_pos rfl] at hs
      rw [if_pos rfl]
      exact Runs'.done (lp := LP0) LPok.none plia hs
    | false =>
      rw [hq, if_neg (by simp)] at hs
      rw [if_neg (by simp)]
      exact Runs'.step (lp := LP0) LPok.none plia hs (plir x l c hl j (i + 1) (by omega) m (by omega))
/-- The first. -/
def pliF (d : plE) : Int := firstN (fun w => plQ (w, d.2)) d.1.2 0
def pliH (d : plE) : St := plih d.1.1 d.1.2 d.2 0
theorem pliH_inj (d d' : plE) (h : pliH d = pliH d') : d = d' := by
  obtain ⟨⟨x, l⟩, c⟩ := d
  obtain ⟨⟨x', l'⟩, c'⟩ := d'
  simp only [pliH, plih, boxB, St.mk.injEq, List.cons.injEq, Prod.mk.injEq, AV.slc.injEq, Blk.mk.injEq, AV.int.injEq, and_true, true_and] at h
  have e1 := map_inj (fs := Wait_tfs) rfl h.1.1.2
  have e2 : c = c' := by exact h.2
  rw [h.1.1.1, e1, e2]
noncomputable def pliL : LP := LP.of pliH (fun d => d.1.2.length ≤ 100000) fun d => .ite (decide (0 ≤ pliF d)) (.leaf (.ret, { fr := [(4, .int .i64 (pliF d))], bs := [(1000000, boxB [.int .i64 d.2])], df := [] })) (.leaf (.exit 0, { fr := [], bs := [(1000000, boxB [.int .i64 d.2])], df := [] }))
noncomputable def pliLP : LPs := LPs.add LP0 19 0 pliL
theorem pliLP_ok : LPok Try.prog cfg pl1 pliLP 19 := LPok.addH LPok.none plio (by
  rintro ⟨⟨x, l⟩, c⟩ h
  have h2 : l.length ≤ 100000 := h
  have key : Runs' Try.prog cfg pl1 19 0 rounds (pliH ((x, l), c)) (pliy c (pliF ((x, l), c))) := by
    have := plir x l c h2 l.length 0 (by omega) rounds (by simp only [rounds]; omega)
    rw [List.drop_zero] at this
    exact this
  unfold pliy at key
  simp only [Alt.val]
  by_cases hq : 0 ≤ pliF ((x, l), c)
  · rw [if_pos hq] at key; rw [decide_eq_true hq]; exact key
  · rw [if_neg hq] at key; rw [decide_eq_false hq]; exact key)
noncomputable def pliu (x : Bool) (l : List Wait_T) (c : plC) : Option Ret := unitQ Try.prog cfg pl1 pliLP true 19 (plXA ((x, l), c)).1 (plXA ((x, l), c)).2
noncomputable def pliu_r (x : Bool) (l : List Wait_T) (c : plC) : Option Ret :=
  oK (pliL.dec { fr := [(0, AV.slc x (List.map (mkV true Wait_tfs) l)), (1, AV.fn 20 [] [AV.ptr 1000000 0 0 0]), (7, AV.int IntKind.i64 (↑(List.map (mkV true Wait_tfs) l).length : Int)), (8, AV.int IntKind.i64 0)], bs := [(1000000, { v := 0, k := BK.box, fz := false, sz := 0, es := [AV.int IntKind.i64 c] })], df := [] }) fun (d0 : (Bool × List (Int × Int × Int × Int)) × Int) => bK (decide (0 ≤ pliF d0)) (some { pan := false, res := AV.int IntKind.i64 (pliF d0), out := [{ v := 0, k := BK.box, fz := false, sz := 0, es := [AV.int IntKind.i64 d0.snd] }], new := [] }) (some { pan := false, res := AV.int IntKind.i64 (-1), out := [{ v := 0, k := BK.box, fz := false, sz := 0, es := [AV.int IntKind.i64 d0.snd] }], new := [] })
theorem pliu_w (x : Bool) (l : List Wait_T) (c : plC) : pliu x l c = pliu_r x l c := by kernel_rfl

noncomputable def pliP : PK := PK.of plXA (fun d => d.1.2.length ≤ 100000) fun d => .leaf { pan := false, res := .int .i64 (pliF d), out := plB d.2, new := [] }
theorem pliF_lt (d : plE) : pliF d = -1 ∨ (0 ≤ pliF d ∧ pliF d < d.1.2.length) := firstN_lt _ _
theorem pliO (d : plE) (h : d.1.2.length ≤ 100000) : CallOk Try.prog 19 (plXA d).1 (plXA d).2 { pan := false, res := .int .i64 (pliF d), out := plB d.2, new := [] } := by
  obtain ⟨⟨x, l⟩, c⟩ := d
  refine CallOk.unit (fnOk pl1_ok 21) rfl pliLP_ok.loops (o := true) (by show 1 ≤ 1000; decide) ((pliu_w x l c).trans ?_)
  unfold pliu_r
  refine oK_lpq (Q := fun z => z = _) pliH_inj ((x, l), c) h ?_
  refine bK_i (fun _ => rfl) (fun hn => ?_)
  have e : pliF ((x, l), c) = -1 := by
    rcases pliF_lt ((x, l), c) with h | h
    · exact h
    · exact absurd h.1 hn
  rw [e]
  rfl
noncomputable def PKp : PKs := PKz.add 19 pliP
theorem PKp_ok : PKsOk Try.prog PKp := PKsOk.any PKz_ok 19 plXA _ _ pliO
abbrev place_id : Nat := 16
abbrev place_sh : Shp := [none, none]
abbrev place_fs : List Lf := [.fl true Wait_tfs, .fi .i64]
abbrev place_rsh : Shp := [none]
abbrev place_rfs : List Lf := [.fi .i64]
noncomputable def place_r (l_x : Bool) (l : List Wait_T) (client : Int) : Option Ret :=
  oK (pliP.dec [AV.slc l_x (List.map (mkV true Wait_tfs) l), AV.fn 20 [] [AV.ptr 1000000 0 0 0]] [{ v := 0, k := BK.box, fz := false, sz := 0, es := [AV.int IntKind.i64 client] }]) fun (d0 : (Bool × List (Int × Int × Int × Int)) × Int) => some { pan := false, res := AV.int IntKind.i64 (pliF d0), out := [], new := [] }
theorem place_w (l_x : Bool) (l : List Wait_T) (client : Int) : unitQ Try.prog cfg PKp LP0 false 16 (groupA place_sh (Tu.mk place_fs ((l_x, l), client))) [] = place_r l_x l client := by kernel_rfl

end Go.Proofs.Ytknikmehfnihpaa
