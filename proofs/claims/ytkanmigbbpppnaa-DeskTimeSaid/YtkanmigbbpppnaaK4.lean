/- A part of the proof: contracts of functions. -/
import Derived.Test.YtkanmigbbpppnaaJ4
import Derived.Test.YtkanmigbbpppnaaAbAny

set_option linter.unusedVariables false
set_option linter.unusedSimpArgs false
set_option maxRecDepth 100000
namespace Go.Proofs.Ytkanmigbbpppnaa
open Go Go.Ab
theorem rnN_pre (now : Int) : ∀ (n : Nat) (D : Desk_T) (a : List Wait_T), ∀ v ∈ a, v ∈ (rnN now n D a).2
 | 0, D, a, v, hv => hv
 | n + 1, D, a, v, hv => by
  unfold rnN
  by_cases hc : posR D now < 0
  ·rw [if_pos hc]; exact hv
  ·rw [if_neg hc]
   exact rnN_pre now n _ _ v (List.mem_append_left _ hv)
theorem rnN_keep {now : Int} (hn : 0 ≤ now) (c f m : Int) : ∀ (n : Nat) (D : Desk_T) (a : List Wait_T), EInv 3 now D.1.2 D.2.2 → (∀ v ∈ D.2.2, v.1 ≠ c) → m ≤ holdQ D.1.2 now c f → m ≤ holdQ (rnN now n D a).1.1.2 now c f
 | 0, D, a, h, hw, hm => hm
 | n + 1, D, a, h, hw, hm => by
  unfold rnN
  by_cases hc : posR D now < 0
  ·rw [if_pos hc]; exact hm
  ·rw [if_neg hc]
   obtain ⟨p1, p2⟩ := pos_spec2 hc
   have h1 := h.lend hn (h.d.w _ p1) (h.fw _ p1) p2
   have hv := hw _ p1
   generalize D.2.2.getD (posR D now).toNat (0, 0, 0, 0) = v at p1 p2 h1 hv ⊢
   refine rnN_keep hn c f m n (nextD D now v) _ h1 (fun u hu => hw u (dropw_mem hu)) ?_
   show m ≤ holdQ (granQ D.1.2 (v.1, v.2.2.1, v.2.2.2, now + 60)) now c f
   rw [hold_gran h.d.a.inv.srt, if_neg (fun hh => hv hh.1)]
   exact hm
theorem rnN_serve {now : Int} (hn : 0 ≤ now) (w : Wait_T) : ∀ (n : Nat) (D : Desk_T) (a : List Wait_T), D.2.2.length ≤ n → EInv 3 now D.1.2 D.2.2 → w ∈ D.2.2 → aheadNw w.1 w.2.2.1 D.2.2 = false → (∀ x ∈ D.1.2, x.2.1 ≠ w.2.2.1) → w ∈ (rnN now n D a).2 ∧ w.2.2.2 ≤ holdQ (rnN now n D a).1.1.2 now w.1 w.2.2.1
 | 0, D, a, hl, h, hw, ha, hx => by
  have : D.2.2 = [] := List.eq_nil_of_length_eq_zero (by omega)
  rw [this] at hw; cases hw
 | n + 1, D, a, hl, h, hw, ha, hx => by
  have hcs : csF D.1.2 now w.1 w.2.2.1 w.2.2.2 = [] := by
   show (D.1.2.filter (csK D.1.2 now w.1 w.2.2.1 w.2.2.2)).map csg = []
   rw [List.map_eq_nil_iff, List.filter_eq_nil_iff]
   intro x hxm hk
   unfold csK at hk
   simp only [Bool.and_eq_true, Bool.not_eq_true', decide_eq_true_eq, decide_eq_false_iff_not, Bool.or_eq_true] at hk
   exact hx x hxm hk.1.1
  have hmay : mayQd D.1.2 D.2.2 now w = true := by
   show (decide (csF D.1.2 now w.1 w.2.2.1 w.2.2.2 = []) && !aheadNw w.1 w.2.2.1 D.2.2) = true
   rw [decide_eq_true hcs, ha]; rfl
  have hc : ¬ posR D now < 0 := by
   intro hc
   rcases firstN_ge (fun v => mayQd D.1.2 D.2.2 now v) D.2.2 0 (Int.le_refl _) with ⟨_, h2⟩ | ⟨k, hk, h1, _, _⟩
   ·have := h2 w hw
    rw [hmay] at this; cases this
   ·have : posR D now = 0 + (k : Int) := h1
    omega
  unfold rnN
  rw [if_neg hc]
  obtain ⟨p1, p2⟩ := pos_spec2 hc
  obtain ⟨l1, l2⟩ := next_len hc
  have hvo := h.d.w _ p1
  have hvf := h.fw _ p1
  have h1 := h.lend hn hvo hvf p2
  generalize D.2.2.getD (posR D now).toNat (0, 0, 0, 0) = v at p1 p2 l1 l2 h1 hvo hvf ⊢
  by_cases hvw : v.1 = w.1
  ·have e := o_uniq h.o p1 hw hvw
   subst e
   refine ⟨rnN_pre now n _ _ v (by simp), ?_⟩
   refine rnN_keep hn v.1 v.2.2.1 v.2.2.2 n (nextD D now v) _ h1 (fun u hu => ?_) ?_
   ·have hu : u ∈ dropFw D.2.2 v.1 := hu
    have := (List.mem_filter.1 hu).2
    simpa using this
   ·exact (h.d.a.grant (w_okE hn hvo) (by omega) (may_cs p2).1).2
  ·have hnf : v.2.2.1 ≠ w.2.2.1 := fun e => by
    have h1 := (may_cs p2).2
    rw [e, ah_other hvw ha ⟨w, hw, rfl⟩] at h1
    cases h1
   refine rnN_serve hn w n (nextD D now v) _ (by omega) h1 (List.mem_filter.2 ⟨hw, by simp; omega⟩) (ah_drop hvw ha) (fun x hxm => ?_)
   have hxm : x ∈ letsL D.1.2 now v := hxm
   rcases lets_mem h.d.a.inv h.u v x hxm with hx' | hx'
   ·omega
   ·exact hx x hx'.1
theorem run_W {till now : Int} (hn : 0 ≤ till) (hle : now ≤ till) {w : Wait_T} {D : Desk_T} (h : WInv till now w D.1.2 D.2.2) : w ∈ (runQ D till).2.2.1.2 ∧ w.2.2.2 ≤ rhQ (runQ D till).1.2 till w.1 w.2.2.1 := by
 have hP := h.prune hle
 have hE := run_E hn hle h.e
 rw [rh_eq hE.d.a.inv.srt]
 exact rnN_serve hn w D.2.2.length (pruD D till) [] (Nat.le_refl _) hP.e hP.mem hP.first (fun x hx hf => by
  have hx : x ∈ pruneQ D.1.2 till := hx
  have h1 := hP.till x hx hf
  have h2 := hP.e.d.a.live x hx
  omega)
def dth (lx : Bool) (l : List Row3b) (D : Desk_T) (now : Int) (w : Wait_T) (t i : Int) : St := { fr := [(4, .slc lx (l.map (mkV true Row3b_fs))), (11, .ptr 176 0 0 0), (12, .int .i64 now), (13, .ptr 208 0 0 0), (17, .int .i64 t), (18, .int .i64 i)], bs := [(176, boxB (Tu.mk Desk_tfs D)), (208, boxB (Tu.mk Wait_tfs w))], df := [] }
noncomputable def dt_s (lx : Bool) (l : List Row3b) (D : Desk_T) (now : Int) (w : Wait_T) (t i : Int) : Option (St ⊕ (Ex × St)) := stepK Try.prog cfg Lt4 LP0 4 0 (dth lx l D now w t i)
noncomputable def dt_s_r (lx : Bool) (l : List Row3b) (D : Desk_T) (now : Int) (w : Wait_T) (t : Int) (i : Int) : Option (St ⊕ Ex × St) :=
 bK (decide (i < (↑(List.map (mkV true [Lf.fi .u8, Lf.fi .u8, Lf.fi .u8]) l).length : Int)))
 (oK (elemAt true [Lf.fi .u8, Lf.fi .u8, Lf.fi .u8] (List.map (mkV true [Lf.fi .u8, Lf.fi .u8, Lf.fi .u8]) l) i) fun (d0 : Int × Int × Int) =>
 oK (elemAt true [Lf.fi .u8, Lf.fi .u8, Lf.fi .u8] (List.map (mkV true [Lf.fi .u8, Lf.fi .u8, Lf.fi .u8]) l) i) fun (d1 : Int × Int × Int) =>
 bK (decide (IntKind.i64.wrap (1 + IntKind.i64.wrap (Int.tmod d1.1 3)) = w.1)) (some (.inl (sf [(4, .slc lx (List.map (mkV true [Lf.fi .u8, Lf.fi .u8, Lf.fi .u8]) l)), (11, pt 176), (12, i6 now), (13, pt 208), (17, i6 (minI (IntKind.i64.wrap (t + IntKind.i64.wrap (Int.tmod d0.2.2 9))) (IntKind.i64.wrap (IntKind.i64.wrap (now + 60) - 1)))), (18, i6 (IntKind.i64.wrap (i + 1)))] [(176, (bx [sl D.1.1 D.1.2, sl D.2.1 D.2.2])), (208, (bx [i6 w.1, i6 w.2.1, i6 w.2.2.1, i6 w.2.2.2]))])))
 (oK (elemAt true [Lf.fi .u8, Lf.fi .u8, Lf.fi .u8] (List.map (mkV true [Lf.fi .u8, Lf.fi .u8, Lf.fi .u8]) l) i) fun (d2 : Int × Int × Int) =>
 oK (elemAt true [Lf.fi .u8, Lf.fi .u8, Lf.fi .u8] (List.map (mkV true [Lf.fi .u8, Lf.fi .u8, Lf.fi .u8]) l) i) fun (d3 : Int × Int × Int) =>
 oK (daskS.dec [AV.agg [sl D.1.1 D.1.2, sl D.2.1 D.2.2], i6 (minI (IntKind.i64.wrap (t + IntKind.i64.wrap (Int.tmod d0.2.2 9))) (IntKind.i64.wrap (IntKind.i64.wrap (now + 60) - 1))), AV.agg [i6 (IntKind.i64.wrap (1 + IntKind.i64.wrap (Int.tmod d1.1 3))), i6 (IntKind.i64.wrap (600 + i)), i6 (IntKind.i64.wrap (1 + IntKind.i64.wrap (Int.tmod d2.2.1 3))), i6 (IntKind.i64.wrap (1 + IntKind.i64.wrap (Int.tmod d3.2.2 2)))]] []) fun (d4 : LW × LW × Int × Int × Int × Int × Int) =>
 some (.inl (sf [(4, .slc lx (List.map (mkV true [Lf.fi .u8, Lf.fi .u8, Lf.fi .u8]) l)), (11, pt 176), (12, i6 now), (13, pt 208), (17, i6 (minI (IntKind.i64.wrap (t + IntKind.i64.wrap (Int.tmod d0.2.2 9))) (IntKind.i64.wrap (IntKind.i64.wrap (now + 60) - 1)))), (18, i6 (IntKind.i64.wrap (i + 1)))] [(176, (bx [.slc (askQ d4.1.2 d4.2.1.2 d4.2.2.1 d4.2.2.2).1.1 (mW (askQ d4.1.2 d4.2.1.2 d4.2.2.1 d4.2.2.2).1.2), .slc (askQ d4.1.2 d4.2.1.2 d4.2.2.1 d4.2.2.2).2.1.1 (mW (askQ d4.1.2 d4.2.1.2 d4.2.2.1 d4.2.2.2).2.1.2)])), (208, (bx [i6 w.1, i6 w.2.1, i6 w.2.2.1, i6 w.2.2.2]))]))))
 (some (.inr (.exit 0, (sf [(11, pt 176), (12, i6 now), (13, pt 208)] [(176, (bx [sl D.1.1 D.1.2, sl D.2.1 D.2.2])), (208, (bx [i6 w.1, i6 w.2.1, i6 w.2.2.1, i6 w.2.2.2]))]))))
theorem dt_s_w (lx : Bool) (l : List Row3b) (D : Desk_T) (now : Int) (w : Wait_T) (t : Int) (i : Int) : dt_s lx l D now w t i = dt_s_r lx l D now w t i := by kernel_rfl

end Go.Proofs.Ytkanmigbbpppnaa
