/- A part of the proof: contracts of functions. -/
import Derived.Test.YtkanmigbbpppnaaJ3
import Derived.Test.YtkanmigbbpppnaaAbAny
set_option linter.unusedVariables false
set_option linter.unusedSimpArgs false
set_option maxRecDepth 100000
namespace Go.Proofs.Ytkanmigbbpppnaa
open Go Go.Ab
theorem ask_inv {now : Int} (hn : 0 ≤ now) {L : List Lease_T} {W : List Wait_T} (h : DInv now L W) {w : Wait_T} (hw : wOk w) : (DInv now (askQ L W now w).1.2 (askQ L W now w).2.1.2 ∧ (askQ L W now w).1.2.length + (askQ L W now w).2.1.2.length ≤ L.length + W.length + 1) ∧ ((askQ L W now w).2.2.1 = true → aheadNw w.1 w.2.2.1 W = false) := by
  have e : askQ L W now w = if mayQd (pruneQ L now) W now w = true then ((false, letsL (pruneQ L now) now w), (W.isEmpty, letsW W w), true, (true, []), 0)
    else if (putQw W w).2 = false then ((L.isEmpty, pruneQ L now), (W.isEmpty, W), false, (true, []), 3)
    else ((L.isEmpty, pruneQ L now), (false, (putQw W w).1), false, ((csF (pruneQ L now) now w.1 w.2.2.1 w.2.2.2).isEmpty, csF (pruneQ L now) now w.1 w.2.2.1 w.2.2.2), 0) := rfl
  have hP : DInv now (pruneQ L now) W := h.prune
  have hp := prune_len L now
  rw [e]
  split
  · next hc =>
    have h1 := hP.lend hn hw hc
    have h3 : (letsL (pruneQ L now) now w).length ≤ (pruneQ L now).length + 1 := granQ_len _ _
    have h4 : (letsW W w).length ≤ W.length := dropw_len W w.1
    exact ⟨⟨h1, by show (letsL (pruneQ L now) now w).length + (letsW W w).length ≤ _; omega⟩, fun _ => (may_cs hc).2⟩
  · split
    · exact ⟨⟨hP, by show (pruneQ L now).length + W.length ≤ _; omega⟩, fun h => (by cases h)⟩
    · obtain ⟨p1, p2, p3⟩ := putQ_spec (w := w) h.l
      refine ⟨⟨⟨hP.a, fun v hv => ?_, p1⟩, by show (pruneQ L now).length + (putQw W w).1.length ≤ _; omega⟩, fun h => (by cases h)⟩
      rcases p3 v hv with hv | rfl
      · exact h.w v hv
      · exact hw
def AQ (lx : Bool) (l : List Row4) (i : Nat) (z : Option (St ⊕ (Ex × St))) : Prop := ∃ D' now', z = some (.inl (aoh lx l D' now' ((i + 1 : Nat) : Int))) ∧ MInv (26 + i) D' now'
theorem ao_e (lx : Bool) (l : List Row4) (hl : ∀ r ∈ l, Tu.wf Row4_fs r) (D : Desk_T) (now : Int) (i : Nat) (h : MInv (25 + i) D now) (hi : i < l.length) (hi2 : i < 20) : AQ lx l i (ao_s lx l D now i) := by
  rw [ao_s_w]
  unfold ao_s_r
  have e2 : l.getD (i : Int).toNat (0, 0, 0, 0) = l[i] := by rw [Int.toNat_natCast, getD_at hi]
  have at_ : ∀ {k : Row4 → Option (St ⊕ (Ex × St))}, AQ lx l i (k l[i]) → AQ lx l i (oK (elemAt true Row4_fs (l.map (mkV true Row4_fs)) i) k) := fun hk => oK_atq (fs := Row4_fs) (0, 0, 0, 0) (by omega) (by simpa using hi) (by rw [e2]; exact hk)
  have hw := hl _ (List.getElem_mem hi)
  have ei : IntKind.i64.wrap ((i : Int) + 1) = ((i + 1 : Nat) : Int) := by rw [w64 (by omega) (by omega)]; omega
  obtain ⟨hd, hn0, hn1, hlen⟩ := h
  refine bK_tq (by simp; omega) ?_
  refine at_ (at_ (at_ ?_))
  generalize l[i] = r at hw at_
  have h1 : (0 : Int) ≤ r.2.1 ∧ r.2.1 ≤ 255 := hw.2.1
  have h2 : (0 : Int) ≤ r.2.2.1 ∧ r.2.2.1 ≤ 255 := hw.2.2.1
  have h3 : (0 : Int) ≤ r.2.2.2 ∧ r.2.2.2 ≤ 255 := hw.2.2.2
  obtain ⟨c1, c2, c3⟩ := tm_lt r.2.1 3 h1 (by omega)
  obtain ⟨f1, f2, f3⟩ := tm_lt r.2.2.1 3 h2 (by omega)
  obtain ⟨m1, m2, m3⟩ := tm_lt r.2.2.2 2 h3 (by omega)
  rw [c1, f1]
  generalize hc : 1 + r.2.1.tmod 3 = c
  generalize hf : 1 + r.2.2.1.tmod 3 = f
  have hL : D.1.2.length ≤ 100000 := by omega
  have hW : D.2.2.length ≤ 100000 := by omega
  refine bK_iq (fun _ => ?_) (fun _ => bK_iq (fun _ => ?_) (fun _ => ?_))
  · refine oK_fsq dgiveS (D.1, D.2, c, f) ⟨hL, hW⟩ ?_
    dsimp only
    have hI : MInv (26 + i) ((D.1.2.isEmpty, dropQ D.1.2 c f), (D.2.2.isEmpty, D.2.2)) (now) := ⟨⟨hd.a.drop _ _, hd.w, hd.l⟩, hn0, by omega, by have := drop_len D.1.2 c f; show (dropQ D.1.2 c f).length + D.2.2.length ≤ 26 + i; omega⟩
    refine oK_lpf amHd_inj ((lx, l), ((D.1.2.isEmpty, dropQ D.1.2 c f), (D.2.2.isEmpty, D.2.2)), now, (i : Int)) ⟨hI.d.a, Nat.le_trans (Nat.le_trans (Nat.le_add_right _ _) hI.len) (by omega)⟩ rfl ?_
    dsimp only
    refine oK_fsq mrefS ((D.1.2.isEmpty, dropQ D.1.2 c f), (D.2.2.isEmpty, D.2.2)).1 (Nat.le_trans (Nat.le_trans (Nat.le_add_right _ _) hI.len) (by omega)) ?_
    dsimp only
    refine bK_fq (by rw [hI.d.a.inv.may]; rfl) ?_
    refine bK_fq (decide_eq_false (by rw [List.length_map]; have := hI.d.l; dsimp only at this; omega)) ?_
    rw [ei]
    exact ⟨_, _, rfl, hI⟩
  · refine at_ ?_
    have t1 := Int.tmod_nonneg 40 h3.1
    have t2 := Int.tmod_lt_of_pos r.2.2.2 (show (0 : Int) < 40 by omega)
    rw [w64 (n := r.2.2.2.tmod 40) (by omega) (by omega), w64 (n := now + r.2.2.2.tmod 40) (by omega) (by omega)]
    generalize r.2.2.2.tmod 40 = d at t1 t2
    refine oK_fsq drunS (D.1, D.2, now + d) ⟨by show D.1.2.length + D.2.2.length ≤ 50; omega, by show 0 ≤ now + d; omega, by show now + d ≤ 1000000; omega⟩ ?_
    dsimp only
    obtain ⟨i1, i2⟩ := run_inv (now' := now + d) (by omega) hd
    have hI : MInv (26 + i) ((runQ D (now + d)).1, (runQ D (now + d)).2.1) (now + d) := ⟨i1, by omega, by omega, Nat.le_trans i2 (by omega)⟩
    refine oK_lpf amHd_inj ((lx, l), ((runQ D (now + d)).1, (runQ D (now + d)).2.1), now + d, (i : Int)) ⟨hI.d.a, Nat.le_trans (Nat.le_trans (Nat.le_add_right _ _) hI.len) (by omega)⟩ rfl ?_
    dsimp only
    refine oK_fsq mrefS ((runQ D (now + d)).1, (runQ D (now + d)).2.1).1 (Nat.le_trans (Nat.le_trans (Nat.le_add_right _ _) hI.len) (by omega)) ?_
    dsimp only
    refine bK_fq (by rw [hI.d.a.inv.may]; rfl) ?_
    refine bK_fq (decide_eq_false (by rw [List.length_map]; have := hI.d.l; dsimp only at this; omega)) ?_
    rw [ei]
    exact ⟨_, _, rfl, hI⟩
  · refine at_ ?_
    rw [m1]
    generalize hm : 1 + r.2.2.2.tmod 2 = m
    refine oK_fsq daskS (D.1, D.2, now, (c, (i : Int), f, m)) ⟨⟨hL, hW⟩, by show 0 ≤ now; omega, by show now ≤ 1000000; omega⟩ ?_
    dsimp only
    obtain ⟨⟨i1, i2⟩, i3⟩ := ask_inv hn0 hd (w := (c, (i : Int), f, m)) ⟨⟨by show 1 ≤ c; omega, by show c ≤ 3; omega⟩, ⟨by show 1 ≤ f; omega, by show f ≤ 6; omega⟩, ⟨by show 1 ≤ m; omega, by show m ≤ 2; omega⟩⟩
    by_cases hok : (askQ D.1.2 D.2.2 now (c, (i : Int), f, m)).2.2.1 = true
    refine bK_tq hok ?_
    refine oK_fsq aheadRSw (D.2, c, f) hW ?_
    refine bK_fq (i3 hok) ?_
    rotate_left
    refine bK_fq (by simpa using hok) ?_
    all_goals
      have hI : MInv (26 + i) ((askQ D.1.2 D.2.2 now (c, (i : Int), f, m)).1, (askQ D.1.2 D.2.2 now (c, (i : Int), f, m)).2.1) (now) := ⟨i1, hn0, by omega, Nat.le_trans i2 (by omega)⟩
      refine oK_lpf amHd_inj ((lx, l), ((askQ D.1.2 D.2.2 now (c, (i : Int), f, m)).1, (askQ D.1.2 D.2.2 now (c, (i : Int), f, m)).2.1), now, (i : Int)) ⟨hI.d.a, Nat.le_trans (Nat.le_trans (Nat.le_add_right _ _) hI.len) (by omega)⟩ rfl ?_
      dsimp only
      refine oK_fsq mrefS ((askQ D.1.2 D.2.2 now (c, (i : Int), f, m)).1, (askQ D.1.2 D.2.2 now (c, (i : Int), f, m)).2.1).1 (Nat.le_trans (Nat.le_trans (Nat.le_add_right _ _) hI.len) (by omega)) ?_
      dsimp only
      refine bK_fq (by rw [hI.d.a.inv.may]; rfl) ?_
      refine bK_fq (decide_eq_false (by rw [List.length_map]; have := hI.d.l; dsimp only at this; omega)) ?_
      rw [ei]
      exact ⟨_, _, rfl, hI⟩
theorem ao_run (lx : Bool) (l : List Row4) (hl : ∀ r ∈ l, Tu.wf Row4_fs r) (hl2 : l.length ≤ 20) : ∀ (j i : Nat) (D : Desk_T) (now : Int), i + j = l.length → MInv (25 + i) D now → ∀ (fu : Nat), j < fu → Runs' Try.prog cfg La6 5 0 fu (aoh lx l D now i) (.exit 0, { fr := [], bs := [], df := [] })
  | 0, i, D, now, hi, h, fu + 1, hf => by
    refine Runs'.done (lp := amP) amP_ok ga50 ((ao_s_w lx l D now i).trans ?_)
    unfold ao_s_r
    exact bK_neg (by simp; omega)
  | j + 1, i, D, now, hi, h, fu + 1, hf => by
    obtain ⟨D', now', hs, ha⟩ := ao_e lx l hl D now i h (by omega) (by omega)
    exact Runs'.step (lp := amP) amP_ok ga50 hs (ao_run lx l hl hl2 j (i + 1) D' now' (by omega) (by rw [show 25 + (i + 1) = 26 + i by omega]; exact ha) fu (by omega))
def aoHd (d : (Bool × List Row4) × Desk_T × Int) : St := aoh d.1.1 d.1.2 d.2.1 d.2.2 0
theorem aoHd_inj (d d' : (Bool × List Row4) × Desk_T × Int) (h : aoHd d = aoHd d') : d = d' := by
  obtain ⟨⟨lx, l⟩, D, now⟩ := d
  obtain ⟨⟨lx', l'⟩, D', now'⟩ := d'
  simp only [aoHd, aoh, boxB, St.mk.injEq, List.cons.injEq, Prod.mk.injEq, AV.slc.injEq, AV.int.injEq, Blk.mk.injEq, and_true, true_and] at h
  obtain ⟨⟨⟨h1, h2⟩, h5⟩, h8⟩ := h
  rw [h1, map_inj (fs := Row4_fs) rfl h2, h5, mk_inj (fs := Desk_tfs) rfl h8]
def aoPre (l : List Row4) (D : Desk_T) (now : Int) : Prop := (∀ r ∈ l, Tu.wf Row4_fs r) ∧ l.length ≤ 20 ∧ MInv 25 D now
noncomputable def aoL : LP := LP.of aoHd (fun d => aoPre d.1.2 d.2.1 d.2.2) fun _ => .leaf (.exit 0, { fr := [], bs := [], df := [] })
noncomputable def aoP : LPs := LPs.add amP 5 0 aoL
theorem aoP_ok : LPok Try.prog cfg La6 aoP 5 := LPok.addH amP_ok go5 (by
  rintro ⟨⟨lx, l⟩, D, now⟩ ⟨h1, h2, h3⟩
  exact ao_run lx l h1 h2 l.length 0 D now (by omega) h3 rounds (by have : l.length ≤ 20 := h2; simp only [rounds]; omega))
abbrev deskAlone_sh : Shp := [none, none]
abbrev deskAlone_fs : List Lf := [.fl false [.fi .u8], .fl true [.fi .u8, .fi .u8, .fi .u8, .fi .u8]]
noncomputable def deskAlone_r (picks_x : Bool) (picks : List Int) (l_x : Bool) (l : List (Int × Int × Int × Int)) : Option Ret :=
  oK (begunS.dec [] []) fun (d0 : PUnit) => bK (decide (100 < (↑(List.map (mkV false [Lf.fi .u8]) picks).length : Int))) (some (rt (.bool true))) (bK (decide (20 < (↑(List.map (mkV true Row4_fs) l).length : Int))) (some (rt (.bool true))) (oK (mdskS.dec [pt 1000000, i6 25] [(bx [.slc picks_x (List.map (mkV false [Lf.fi .u8]) picks), i6 0])]) fun (d1 : ((Bool × List Int) × Int) × Int) => oK (aoL.dec (sf [(1, .slc l_x (List.map (mkV true Row4_fs) l)), (5, pt 80), (6, i6 (mdR (d1.1, d1.2)).2.2.2), (7, i6 0)] [(80, (bx [.slc (mdR (d1.1, d1.2)).2.1.1 (mW (mdR (d1.1, d1.2)).2.1.2), .slc (mdR (d1.1, d1.2)).2.2.1.1 (mW (mdR (d1.1, d1.2)).2.2.1.2)]))])) fun (d2 : LW × Desk_T × Int) => some (rt (.bool true))))
theorem deskAlone_w (picks_x : Bool) (picks : List Int) (l_x : Bool) (l : List (Int × Int × Int × Int)) : unitQ Try.prog cfg La6 aoP true 5 (groupA deskAlone_sh (Tu.mk deskAlone_fs ((picks_x, picks), (l_x, l)))) [] = deskAlone_r picks_x picks l_x l := by kernel_rfl
theorem deskAlone_yes (picks_x : Bool) (picks : List Int) (l_x : Bool) (l : List (Int × Int × Int × Int)) (h : Tu.wf deskAlone_fs ((picks_x, picks), (l_x, l))) : Yes (deskAlone_r picks_x picks l_x l) := by
  have hp : ∀ v ∈ picks, 0 ≤ v ∧ v < 256 := wf8 h.1.2
  have hl : ∀ r ∈ l, Tu.wf Row4_fs r := h.2.2
  unfold deskAlone_r
  refine oK_fsq (Q := Yes) begunS () trivial ?_
  refine bK_iq (Q := Yes) (fun _ => yes_leaf) (fun c1 => bK_iq (Q := Yes) (fun _ => yes_leaf) (fun c2 => ?_))
  rw [List.length_map] at c1 c2
  have hk : pkOk ((picks_x, picks), 0) := ⟨Int.le_refl _, by show (0 : Int) ≤ 2 ^ 62; decide, by show picks.length ≤ 2 ^ 62; omega, hp⟩
  refine oK_msq (Q := Yes) mdskS ((picks_x, picks), 0) (25 : Int) ⟨hk, by show (0 : Int) ≤ 25; decide, by show (25 : Int) ≤ 25; decide⟩ ?_
  have hs := (mdR_spec (((picks_x, picks), 0), 25) ⟨hk, by show (0 : Int) ≤ 25; decide, by show (25 : Int) ≤ 25; decide⟩).1.2
  dsimp only
  generalize mdR (((picks_x, picks), 0), 25) = y at hs ⊢
  exact oK_lpf (Q := Yes) aoHd_inj ((l_x, l), (y.2.1, y.2.2.1), y.2.2.2) ⟨hl, by show l.length ≤ 20; omega, hs⟩ rfl yes_leaf
end Go.Proofs.Ytkanmigbbpppnaa
