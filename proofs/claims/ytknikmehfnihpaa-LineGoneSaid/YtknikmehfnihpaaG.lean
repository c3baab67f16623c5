/- A part of the proof: contracts of functions. -/
import Derived.Test.YtknikmehfnihpaaA
import Derived.Test.YtknikmehfnihpaaAbAny

set_option linter.unusedVariables false
set_option linter.unusedSimpArgs false
set_option maxRecDepth 100000
namespace Go.Proofs.Ytknikmehfnihpaa
open Go Go.Ab
abbrev Row2 : Type := Int × Int
abbrev Row2_fs : List Lf := [.fi .u8, .fi .u8]
def lgh (x : Bool) (l : List Row2) (w : Int) (xa : Bool) (a : List Wait_T) (i : Int) : St := { fr := [(0, .slc x (l.map (mkV true Row2_fs))), (1, .int .u8 w), (5, .slc xa (a.map (mkV true Wait_tfs))), (6, .int .i64 i)], bs := [], df := [] }
noncomputable def lg_s (x : Bool) (l : List Row2) (w : Int) (xa : Bool) (a : List Wait_T) (i : Int) : Option (St ⊕ (Ex × St)) := stepK Try.prog cfg A8 LP0 6 0 (lgh x l w xa a i)
noncomputable def lg_s_r (x : Bool) (l : List Row2) (w : Int) (xa : Bool) (a : List Wait_T) (i : Int) : Option (St ⊕ Ex × St) :=
  bK (decide (i < (↑(List.map (mkV true [Lf.fi IntKind.u8, Lf.fi IntKind.u8]) l).length : Int))) (oK (elemAt true [Lf.fi IntKind.u8, Lf.fi IntKind.u8] (List.map (mkV true [Lf.fi IntKind.u8, Lf.fi IntKind.u8]) l) i) fun (d0 : Int × Int) => oK (elemAt true [Lf.fi IntKind.u8, Lf.fi IntKind.u8] (List.map (mkV true [Lf.fi IntKind.u8, Lf.fi IntKind.u8]) l) i) fun (d1 : Int × Int) => oK (putS.dec [AV.slc xa (List.map (mkV true Wait_tfs) a), AV.agg [AV.int IntKind.i64 (IntKind.i64.wrap (1 + IntKind.i64.wrap (Int.tmod d0.fst 5))), AV.int IntKind.i64 (IntKind.i64.wrap (1 + i)), AV.int IntKind.i64 (IntKind.i64.wrap (1 + IntKind.i64.wrap (Int.tmod d1.snd 2))), AV.int IntKind.i64 1]] []) fun (d2 : (Bool × List (Int × Int × Int × Int)) × Int × Int × Int × Int) => some (Sum.inl { fr := [(0, AV.slc x (List.map (mkV true [Lf.fi IntKind.u8, Lf.fi IntKind.u8]) l)), (1, AV.int IntKind.u8 w), (5, AV.slc false (List.map (mkV true Wait_tfs) (putQ d2.fst.snd d2.snd).fst)), (6, AV.int IntKind.i64 (IntKind.i64.wrap (i + 1)))], bs := [], df := [] })) (some (Sum.inr (Ex.exit 0, { fr := [(1, AV.int IntKind.u8 w), (5, AV.slc xa (List.map (mkV true Wait_tfs) a))], bs := [], df := [] })))
theorem lg_s_w (x : Bool) (l : List Row2) (w : Int) (xa : Bool) (a : List Wait_T) (i : Int) : lg_s x l w xa a i = lg_s_r x l w xa a i := by kernel_rfl

def lgE (w : Int) (xa : Bool) (a : List Wait_T) : Ex × St := (.exit 0, { fr := [(1, .int .u8 w), (5, .slc xa (a.map (mkV true Wait_tfs)))], bs := [], df := [] })
theorem lgl : (loopsOf 0 (codeOf Try.prog 6)).map (·.1) = [0, 2] := by kernel_rfl
theorem lgo : OneLoops Try.prog 6 := by unfold OneLoops; rw [lgl]; decide
theorem lga : At 0 (codeOf Try.prog 6) 0 (.loop (bodyAt Try.prog 6 0)) := at_body lgo (by rw [lgl]; decide)
theorem lgb : At 0 (codeOf Try.prog 6) 2 (.loop (bodyAt Try.prog 6 2)) := at_body lgo (by rw [lgl]; decide)
theorem lg_run (x : Bool) (l : List Row2) (w : Int) (hl : l.length ≤ 100) : ∀ (j i : Nat), i + j = l.length → ∀ (xa : Bool) (a : List Wait_T), LInv a → ∀ (m : Nat), j < m → ∃ y : Bool × List Wait_T, LInv y.2 ∧ Runs' Try.prog cfg A8 6 0 m (lgh x l w xa a i) (lgE w y.1 y.2)
  | 0, i, hi, xa, a, h, m + 1, hm => by
    refine ⟨(xa, a), h, Runs'.done (lp := LP0) LPok.none lga ((lg_s_w x l w xa a i).trans ?_)⟩
    unfold lg_s_r
    rw [bK_neg (by simp; omega)]
    rfl
  | j + 1, i, hi, xa, a, h, m + 1, hm => by
    have hi' : i < l.length := by omega
    have e1 : IntKind.i64.wrap ((i : Int) + 1) = ((i + 1 : Nat) : Int) := by rw [w64 (by omega) (by omega)]; omega
    have at_ : ∀ {Q : Option (St ⊕ (Ex × St)) → Prop} {k : Row2 → Option (St ⊕ (Ex × St))}, Q (k l[i]) → Q (oK (elemAt true Row2_fs (l.map (mkV true Row2_fs)) i) k) := fun hk => oK_atq (fs := Row2_fs) (0, 0) (by omega) (by simpa using hi') (by rw [Int.toNat_natCast, getD_at hi']; exact hk)
    have ha : a.length ≤ 100000 := by have := h.1; omega
    obtain ⟨z, h3, h4⟩ := lg_run x l w hl j (i + 1) (by omega) false (putF a (IntKind.i64.wrap (1 + IntKind.i64.wrap (Int.tmod l[i].1 5)), IntKind.i64.wrap (1 + (i : Int)), IntKind.i64.wrap (1 + IntKind.i64.wrap (Int.tmod l[i].2 2)), 1)).1 (put_inv _ h) m (by omega)
    refine ⟨z, h3, Runs'.step (lp := LP0) LPok.none lga ((lg_s_w x l w xa a i).trans ?_) h4⟩
    unfold lg_s_r
    rw [e1]
    refine bK_tq (Q := fun z => z = _) (by simp; omega) (at_ (Q := fun z => z = _) (at_ (Q := fun z => z = _) ?_))
    exact oK_fsq (Q := fun z => z = _) putS ((xa, a), (IntKind.i64.wrap (1 + IntKind.i64.wrap (Int.tmod l[i].1 5)), IntKind.i64.wrap (1 + (i : Int)), IntKind.i64.wrap (1 + IntKind.i64.wrap (Int.tmod l[i].2 2)), (1 : Int))) ha rfl
abbrev LgD : Type := (Bool × List Row2) × Int
def lgH (d : LgD) : St := lgh d.1.1 d.1.2 d.2 true [] 0
theorem lg_ex (d : LgD) (h : d.1.2.length ≤ 20) : ∃ y : Bool × List Wait_T, LInv y.2 ∧ Runs' Try.prog cfg A8 6 0 rounds (lgH d) (lgE d.2 y.1 y.2) :=
  lg_run d.1.1 d.1.2 d.2 (by omega) d.1.2.length 0 (by omega) true [] ⟨by simp, by simp⟩ rounds (by simp only [rounds]; omega)
/-- Who waits. -/
noncomputable def lgR (d : LgD) : Bool × List Wait_T := open Classical in if h : d.1.2.length ≤ 20 then Classical.choose (lg_ex d h) else (true, [])
theorem lgR_spec (d : LgD) (h : d.1.2.length ≤ 20) : LInv (lgR d).2 ∧ Runs' Try.prog cfg A8 6 0 rounds (lgH d) (lgE d.2 (lgR d).1 (lgR d).2) := by
  unfold lgR
  rw [dif_pos h]
  exact Classical.choose_spec (lg_ex d h)
noncomputable def lgL : LP := LP.of lgH (fun d => d.1.2.length ≤ 20) fun d => .leaf (lgE d.2 (lgR d).1 (lgR d).2)
noncomputable def lgP : LPs := LPs.add LP0 6 0 lgL
theorem lgP_ok : LPok Try.prog cfg A8 lgP 6 := LPok.addH LPok.none lgo fun d h => (lgR_spec d h).2
theorem lgH_inj (d d' : LgD) (h : lgH d = lgH d') : d = d' := by
  obtain ⟨⟨x, l⟩, w⟩ := d
  obtain ⟨⟨x', l'⟩, w'⟩ := d'
  simp only [lgH, lgh, St.mk.injEq, List.cons.injEq, Prod.mk.injEq, AV.slc.injEq, AV.int.injEq, and_true, true_and] at h
  have e1 := map_inj (fs := Row2_fs) rfl h.1.2
  rw [h.1.1, e1, h.2]
def l2h (x : Bool) (a : List Wait_T) (c : Int) (y : Bool) (b : List Wait_T) (n i : Int) : St := { fr := [(5, .slc x (a.map (mkV true Wait_tfs))), (7, .int .i64 c), (8, .slc y (b.map (mkV true Wait_tfs))), (9, .int .i64 n), (10, .int .i64 i)], bs := [], df := [] }
noncomputable def l2_s (x : Bool) (a : List Wait_T) (c : Int) (y : Bool) (b : List Wait_T) (n i : Int) : Option (St ⊕ (Ex × St)) := stepK Try.prog cfg A8 lgP 6 2 (l2h x a c y b n i)
noncomputable def l2_s_r (x : Bool) (a : List Wait_T) (c : Int) (y : Bool) (b : List Wait_T) (n : Int) (i : Int) : Option (St ⊕ Ex × St) :=
  bK (decide (i < (↑(List.map (mkV true Wait_tfs) a).length : Int)))
  (oK (elemAt true Wait_tfs (List.map (mkV true Wait_tfs) a) i) fun (d0 : Int × Int × Int × Int) =>
    bK (decide (d0.fst = c)) (some (Sum.inl { fr := [(5, AV.slc x (List.map (mkV true Wait_tfs) a)), (7, AV.int IntKind.i64 c), (8, AV.slc y (List.map (mkV true Wait_tfs) b)), (9, AV.int IntKind.i64 n), (10, AV.int IntKind.i64 (IntKind.i64.wrap (i + 1)))], bs := [], df := [] })) (bK (decide ((↑(List.map (mkV true Wait_tfs) b).length : Int) ≤ n)) (some (Sum.inr (Ex.ret, { fr := [(4, AV.bool false), (5, AV.slc x (List.map (mkV true Wait_tfs) a)), (7, AV.int IntKind.i64 c), (8, AV.slc y (List.map (mkV true Wait_tfs) b)), (9, AV.int IntKind.i64 n)], bs := [], df := [] }))) (oK (elemAt true Wait_tfs (List.map (mkV true Wait_tfs) b) n) fun (d1 : Int × Int × Int × Int) => oK (elemAt true Wait_tfs (List.map (mkV true Wait_tfs) a) i) fun (d2 : Int × Int × Int × Int) => bK (!(decide (d1.fst = d2.fst) && (decide (d1.snd.fst = d2.snd.fst) && (decide (d1.snd.snd.fst = d2.snd.snd.fst) && (decide (d1.snd.snd.snd = d2.snd.snd.snd) && true))))) (some (Sum.inr (Ex.ret, { fr := [(4, AV.bool false), (5, AV.slc x (List.map (mkV true Wait_tfs) a)), (7, AV.int IntKind.i64 c), (8, AV.slc y (List.map (mkV true Wait_tfs) b)), (9, AV.int IntKind.i64 n)], bs := [], df := [] }))) (some (Sum.inl { fr := [(5, AV.slc x (List.map (mkV true Wait_tfs) a)), (7, AV.int IntKind.i64 c), (8, AV.slc y (List.map (mkV true Wait_tfs) b)), (9, AV.int IntKind.i64 (IntKind.i64.wrap (n + 1))), (10, AV.int IntKind.i64 (IntKind.i64.wrap (i + 1)))], bs := [], df := [] })))))
  (some (Sum.inr (Ex.exit 2, { fr := [(5, AV.slc x (List.map (mkV true Wait_tfs) a)), (7, AV.int IntKind.i64 c), (8, AV.slc y (List.map (mkV true Wait_tfs) b)), (9, AV.int IntKind.i64 n)], bs := [], df := [] })))
theorem l2_s_w (x : Bool) (a : List Wait_T) (c : Int) (y : Bool) (b : List Wait_T) (n : Int) (i : Int) : l2_s x a c y b n i = l2_s_r x a c y b n i := by kernel_rfl

def l2E (x : Bool) (a : List Wait_T) (c : Int) (y : Bool) (b : List Wait_T) (n : Int) : Ex × St := (.exit 2, { fr := [(5, .slc x (a.map (mkV true Wait_tfs))), (7, .int .i64 c), (8, .slc y (b.map (mkV true Wait_tfs))), (9, .int .i64 n)], bs := [], df := [] })
theorem drop_next {a : List Wait_T} {c : Int} {i : Nat} (hi : i < a.length) : dropF (a.take (i + 1)) c = dropF (a.take i) c ++ (if a[i].1 = c then [] else [a[i]]) := by
  unfold dropF
  rw [List.take_add_one, List.getElem?_eq_getElem hi, List.filter_append]
  congr 1
  by_cases h : a[i].1 = c <;> simp [h]
theorem drop_split (a : List Wait_T) (c : Int) (i : Nat) : dropF a c = dropF (a.take i) c ++ dropF (a.drop i) c := by
  unfold dropF
  rw [← List.filter_append, List.take_append_drop]
theorem l2_run (x : Bool) (a : List Wait_T) (c : Int) (y : Bool) (hl : a.length ≤ 100) : ∀ (j i : Nat), i + j = a.length → ∀ (m : Nat), j < m → Runs' Try.prog cfg A8 6 2 m (l2h x a c y (dropF a c) ((dropF (a.take i) c).length : Int) i) (l2E x a c y (dropF a c) ((dropF a c).length : Int))
  | 0, i, hi, m + 1, hm => by
    refine Runs'.done (lp := lgP) lgP_ok lgb ((l2_s_w x a c y (dropF a c) _ i).trans ?_)
    unfold l2_s_r
    rw [bK_neg (by simp; omega), List.take_of_length_le (by omega)]
    rfl
  | j + 1, i, hi, m + 1, hm => by
    have hi' : i < a.length := by omega
    have e1 : IntKind.i64.wrap ((i : Int) + 1) = ((i + 1 : Nat) : Int) := by rw [w64 (by omega) (by omega)]; omega
    have at_ : ∀ {Q : Option (St ⊕ (Ex × St)) → Prop} {k : Wait_T → Option (St ⊕ (Ex × St))}, Q (k a[i]) → Q (oK (elemAt true Wait_tfs (a.map (mkV true Wait_tfs)) i) k) := fun hk => oK_atq (fs := Wait_tfs) (0, 0, 0, 0) (by omega) (by simpa using hi') (by rw [Int.toNat_natCast, getD_at hi']; exact hk)
    have ih := l2_run x a c y hl j (i + 1) (by omega) m (by omega)
    have hn := drop_next (c := c) hi'
    by_cases h : a[i].1 = c
    · rw [if_pos h, List.append_nil] at hn
      rw [hn] at ih
      refine Runs'.step (lp := lgP) lgP_ok lgb ((l2_s_w x a c y (dropF a c) _ i).trans ?_) ih
      unfold l2_s_r
      rw [e1]
      refine bK_tq (Q := fun z => z = _) (by simp; omega) (at_ (Q := fun z => z = _) ?_)
      rw [bK_pos (decide_eq_true h)]
      rfl
    · rw [if_neg h] at hn
      have hs := drop_split a c i
      have hd : dropF (a.drop i) c = a[i] :: dropF (a.drop (i + 1)) c := by
        rw [List.drop_eq_getElem_cons hi']
        unfold dropF
        rw [List.filter_cons, if_pos (by simp [h])]
      rw [hd] at hs
      have hlt : (dropF (a.take i) c).length < (dropF a c).length := by rw [hs]; simp
      have hle := dropF_le a c
      have hg : (dropF a c)[(dropF (a.take i) c).length]'hlt = a[i] := by
        have := congrArg (fun z => z[(dropF (a.take i) c).length]?) hs
        simp only [List.getElem?_append_right (Nat.le_refl _), Nat.sub_self, List.getElem?_cons_zero, List.getElem?_eq_getElem hlt] at this
        exact Option.some.inj this
      rw [hn] at ih
      refine Runs'.step (lp := lgP) lgP_ok lgb ((l2_s_w x a c y (dropF a c) _ i).trans ?_) ih
      unfold l2_s_r
      have e2 : IntKind.i64.wrap (((dropF (a.take i) c).length : Int) + 1) = (((dropF (a.take i) c) ++ [a[i]]).length : Int) := by rw [w64 (by omega) (by omega)]; simp
      rw [e1, e2]
      refine bK_tq (Q := fun z => z = _) (by simp; omega) (at_ (Q := fun z => z = _) ?_)
      rw [bK_neg (decide_eq_false h), bK_neg (by rw [List.length_map]; exact decide_eq_false (by omega))]
      refine oK_atq (Q := fun z => z = _) (fs := Wait_tfs) (0, 0, 0, 0) (by omega) (by simpa using hlt) ?_
      rw [Int.toNat_natCast, getD_at hlt, hg]
      refine at_ (Q := fun z => z = _) ?_
      rw [bK_neg (by simp)]
      rfl
abbrev L2D : Type := (Bool × List Wait_T) × Int × Bool
def l2H (d : L2D) : St := l2h d.1.1 d.1.2 d.2.1 d.2.2 (dropF d.1.2 d.2.1) 0 0
noncomputable def l2L : LP := LP.of l2H (fun d => d.1.2.length ≤ 100) fun d => .leaf (l2E d.1.1 d.1.2 d.2.1 d.2.2 (dropF d.1.2 d.2.1) ((dropF d.1.2 d.2.1).length : Int))
noncomputable def l2P : LPs := LPs.add lgP 6 2 l2L
theorem l2P_ok : LPok Try.prog cfg A8 l2P 6 := LPok.addH lgP_ok lgo (by
  rintro ⟨⟨x, a⟩, c, y⟩ h
  have h' : a.length ≤ 100 := h
  exact l2_run x a c y h' a.length 0 (by omega) rounds (by simp only [rounds]; omega))
theorem l2H_inj (d d' : L2D) (h : l2H d = l2H d') : d = d' := by
  obtain ⟨⟨x, a⟩, c, y⟩ := d
  obtain ⟨⟨x', a'⟩, c', y'⟩ := d'
  simp only [l2H, l2h, St.mk.injEq, List.cons.injEq, Prod.mk.injEq, AV.slc.injEq, AV.int.injEq, and_true, true_and] at h
  have e1 := map_inj (fs := Wait_tfs) rfl h.1.2
  rw [h.1.1, e1, h.2.1, h.2.2.1]
abbrev lineGone_id : Nat := 6
abbrev lineGone_sh : Shp := [none, none]
abbrev lineGone_fs : List Lf := [.fl true [.fi .u8, .fi .u8], .fi .u8]
abbrev lineGone_rsh : Shp := [none]
abbrev lineGone_rfs : List Lf := [.fb]
noncomputable def lineGone_r (l_x : Bool) (l : List (Int × Int)) (who : Int) : Option Ret :=
  oK (begunS.dec [] []) fun (d0 : PUnit) =>
  bK (decide (20 < (↑(List.map (mkV true [Lf.fi IntKind.u8, Lf.fi IntKind.u8]) l).length : Int))) (some { pan := false, res := AV.bool true, out := [], new := [] })
    (oK (lgL.dec { fr := [(0, AV.slc l_x (List.map (mkV true [Lf.fi IntKind.u8, Lf.fi IntKind.u8]) l)), (1, AV.int IntKind.u8 who), (5, AV.slc true []), (6, AV.int IntKind.i64 0)], bs := [], df := [] }) fun (d1 : (Bool × List (Int × Int)) × Int) =>
      oK (dropS.dec [AV.slc (lgR d1).fst (List.map (mkV true Wait_tfs) (lgR d1).snd), AV.int IntKind.i64 (IntKind.i64.wrap (1 + IntKind.i64.wrap (d1.snd.tmod 5)))] []) fun (d2 : (Bool × List (Int × Int × Int × Int)) × Int) =>
        oK (l2L.dec { fr := [(5, AV.slc (lgR d1).fst (List.map (mkV true Wait_tfs) (lgR d1).snd)), (7, AV.int IntKind.i64 (IntKind.i64.wrap (1 + IntKind.i64.wrap (d1.snd.tmod 5)))), (8, AV.slc d2.fst.snd.isEmpty (List.map (mkV true Wait_tfs) (dropF d2.fst.snd d2.snd))), (9, AV.int IntKind.i64 0), (10, AV.int IntKind.i64 0)], bs := [], df := [] }) fun (d3 : (Bool × List (Int × Int × Int × Int)) × Int × Bool) => bK (decide ((↑(dropF d3.fst.snd d3.snd.fst).length : Int) = (↑(List.map (mkV true Wait_tfs) (dropF d3.fst.snd d3.snd.fst)).length : Int))) (bK (decide ((↑(List.map (mkV true Wait_tfs) d3.fst.snd).length : Int) ≤ 4)) (oK (dropS.dec [AV.slc d3.snd.snd (List.map (mkV true Wait_tfs) (dropF d3.fst.snd d3.snd.fst)), AV.int IntKind.i64 d3.snd.fst] []) fun (d4 : (Bool × List (Int × Int × Int × Int)) × Int) => oK (swS.dec [AV.slc d4.fst.snd.isEmpty (List.map (mkV true Wait_tfs) (dropF d4.fst.snd d4.snd)), AV.slc d3.snd.snd (List.map (mkV true Wait_tfs) (dropF d3.fst.snd d3.snd.fst))] []) fun (d5 : (Bool × List (Int × Int × Int × Int)) × Bool × List (Int × Int × Int × Int)) => some { pan := false, res := AV.bool (swQ d5.fst.snd d5.snd.snd), out := [], new := [] }) (some { pan := false, res := AV.bool false, out := [], new := [] })) (some { pan := false, res := AV.bool false, out := [], new := [] }))
theorem lineGone_w (l_x : Bool) (l : List (Int × Int)) (who : Int) : unitQ Try.prog cfg A8 l2P true 6 (groupA lineGone_sh (Tu.mk lineGone_fs ((l_x, l), who))) [] = lineGone_r l_x l who := by kernel_rfl

theorem drop_again (a : List Wait_T) (c : Int) : dropF (dropF a c) c = dropF a c := by
  unfold dropF
  rw [List.filter_filter]
  congr 1
  funext w
  simp
theorem lineGone_yes (l_x : Bool) (l : List (Int × Int)) (who : Int) (h : Tu.wf lineGone_fs ((l_x, l), who)) : Yes (lineGone_r l_x l who) := by
  unfold lineGone_r
  refine oK_fsq begunS () trivial ?_
  refine bK_iq (fun _ => yes_leaf) (fun hl => ?_)
  have hl' : l.length ≤ 20 := by rw [List.length_map] at hl; omega
  refine oK_lpq lgH_inj ((l_x, l), who) hl' ?_
  have hv := (lgR_spec ((l_x, l), who) hl').1
  generalize lgR ((l_x, l), who) = y at hv ⊢
  obtain ⟨x, a⟩ := y
  simp only at hv ⊢
  generalize IntKind.i64.wrap (1 + IntKind.i64.wrap (who.tmod 5)) = c
  have ha := hv.1
  have ha' : a.length ≤ 100000 := by omega
  have hd := dropF_le a c
  have hd' : (dropF a c).length ≤ 100000 := by omega
  refine oK_fsq dropS ((x, a), c) ha' ?_
  refine oK_lpq l2H_inj ((x, a), c, a.isEmpty) (by show a.length ≤ 100; omega) ?_
  refine bK_tq (by simp) (bK_tq (by simp; omega) ?_)
  refine oK_fsq dropS ((a.isEmpty, dropF a c), c) hd' ?_
  have hd2 : (dropF (dropF a c) c).length ≤ 100000 := by rw [drop_again]; exact hd'
  refine oK_fsq swS (((dropF a c).isEmpty, dropF (dropF a c) c), (a.isEmpty, dropF a c)) hd2 ?_
  refine yes_of ?_
  simp only [drop_again]
  exact sw_refl _

end Go.Proofs.Ytknikmehfnihpaa
