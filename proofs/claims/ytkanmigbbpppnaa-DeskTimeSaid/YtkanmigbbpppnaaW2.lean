/- A part of the proof: contracts of functions. -/
import Derived.Test.YtkanmigbbpppnaaV2
import Derived.Test.YtkanmigbbpppnaaAbAny

set_option linter.unusedVariables false
set_option linter.unusedSimpArgs false
set_option maxRecDepth 100000
namespace Go.Proofs.Ytkanmigbbpppnaa
open Go Go.Ab
def r0h0 (D : Desk_T) (now : Int) : St := { fr := [(3, .ptr 48 0 0 0), (4, .ptr 64 0 0 0), (5, .slc true []), (6, .slc true [])], bs := [(48, boxB [.int .i64 now]), (64, boxB (Tu.mk Desk_tfs D))], df := [] }
def r0h1 (D : Desk_T) (now : Int) (a : List Wait_T) : St := { fr := [(3, .ptr 48 0 0 0), (4, .ptr 64 0 0 0), (5, .sref 560 0 0 (a.map (mkV true Wait_tfs)).length), (6, .slc true [])], bs := [(48, boxB [.int .i64 now]), (64, boxB (Tu.mk Desk_tfs D)), (560, { v := 0, k := .row, fz := false, sz := 4, es := a.map (mkV true Wait_tfs) })], df := [] }
noncomputable def r0s0 (D : Desk_T) (now : Int) : Option (St ⊕ (Ex × St)) := stepK Try.prog cfg Ru1 r2P 14 0 (r0h0 D now)
noncomputable def r0s0_r (D : Desk_T) (now : Int) : Option (St ⊕ Ex × St) :=
 oK (ixiP.dec [sl D.2.1 D.2.2, .fn 31 [] [pt 1000000, pt 1000001]] [(bx [sl D.1.1 D.1.2, sl D.2.1 D.2.2]), (bx [i6 now])]) fun (d0 : LW × Desk_T × Int) =>
 bK (decide (ixiF d0 < 0)) (some (.inr (.exit 0, (sf [(3, pt 48), (4, pt 64), (5, .slc true []), (6, .slc true [])] [(48, (bx [i6 d0.2.2])), (64, (bx [sl d0.2.1.1.1 d0.2.1.1.2, sl d0.2.1.2.1 d0.2.1.2.2]))]))))
 (oK (elemAt true Wait_tfs (mW d0.2.1.2.2) (ixiF d0)) fun (d1 : Int × Int × Int × Int) => oK (dletsS.dec [AV.agg [sl d0.2.1.1.1 d0.2.1.1.2, sl d0.2.1.2.1 d0.2.1.2.2], i6 d0.2.2, AV.agg [i6 d1.1, i6 d1.2.1, i6 d1.2.2.1, i6 d1.2.2.2]] []) fun (d2 : LW × LW × Int × Int × Int × Int × Int) => some (.inl (sf [(3, pt 48), (4, pt 64), (5, .sref 560 0 0 1), (6, .slc true [])] [(48, (bx [i6 d0.2.2])), (64, (bx [sl false (letsL d2.1.2 d2.2.2.1 d2.2.2.2), sl d2.2.1.2.isEmpty (letsW d2.2.1.2 d2.2.2.2)])), (560, { v := 0, k := .row, fz := false, sz := 4, es := [AV.agg [i6 d1.1, i6 d1.2.1, i6 d1.2.2.1, i6 d1.2.2.2]] })])))
theorem r0s0_w (D : Desk_T) (now : Int) : r0s0 D now = r0s0_r D now := by kernel_rfl

noncomputable def r0s1 (D : Desk_T) (now : Int) (a : List Wait_T) : Option (St ⊕ (Ex × St)) := stepK Try.prog cfg Ru1 r2P 14 0 (r0h1 D now a)
noncomputable def r0s1_r (D : Desk_T) (now : Int) (a : List Wait_T) : Option (St ⊕ Ex × St) :=
 oK (ixiP.dec [sl D.2.1 D.2.2, .fn 31 [] [pt 1000000, pt 1000001]] [(bx [sl D.1.1 D.1.2, sl D.2.1 D.2.2]), (bx [i6 now])]) fun (d0 : LW × Desk_T × Int) =>
 bK (decide (ixiF d0 < 0)) (some (.inr (.exit 0, (sf [(3, pt 48), (4, pt 64), (5, .sref 560 0 0 (mW a).length), (6, .slc true [])] [(48, (bx [i6 d0.2.2])), (64, (bx [sl d0.2.1.1.1 d0.2.1.1.2, sl d0.2.1.2.1 d0.2.1.2.2])), (560, (rw4 a))]))))
 (oK (elemAt true Wait_tfs (mW d0.2.1.2.2) (ixiF d0)) fun (d1 : Int × Int × Int × Int) =>
 oK (dletsS.dec [AV.agg [sl d0.2.1.1.1 d0.2.1.1.2, sl d0.2.1.2.1 d0.2.1.2.2], i6 d0.2.2, AV.agg [i6 d1.1, i6 d1.2.1, i6 d1.2.2.1, i6 d1.2.2.2]] []) fun (d2 : LW × LW × Int × Int × Int × Int × Int) =>
 bK (decide (0 + (mW a).length ≤ (mW a).length)) (bK (decide (0 = 0 ∧ (mW a).length = (mW a).length) && bytesFit Try.prog 25 ((mW a).length + 1)) (some (.inl (sf [(3, pt 48), (4, pt 64), (5, .sref 560 0 0 ((mW a).length + 1)), (6, .slc true [])] [(48, (bx [i6 d0.2.2])), (64, (bx [sl false (letsL d2.1.2 d2.2.2.1 d2.2.2.2), sl d2.2.1.2.isEmpty (letsW d2.2.1.2 d2.2.2.2)])), (560, { v := 0, k := .row, fz := false, sz := 4, es := List.take (mW a).length (mW a) ++ [AV.agg [i6 d1.1, i6 d1.2.1, i6 d1.2.2.1, i6 d1.2.2.2]] })]))) none) none)
theorem r0s1_w (D : Desk_T) (now : Int) (a : List Wait_T) : r0s1 D now a = r0s1_r D now a := by kernel_rfl

theorem granQ_len (l : List Lease_T) (t : Lease_T) : (granQ l t).length ≤ l.length + 1 := by
 have e0 : granQ l t = if bsI l t = true then l.set (bsQ l t).toNat ((l.getD (bsQ l t).toNat zL).1, (l.getD (bsQ l t).toNat zL).2.1, maxI (l.getD (bsQ l t).toNat zL).2.2.1 t.2.2.1, maxI (l.getD (bsQ l t).toNat zL).2.2.2 t.2.2.2) else insL l t (bsQ l t) := rfl
 rw [e0]
 split
 ·rw [List.length_set]; omega
 ·rw [insL_len]; omega
theorem dropF_lt {W : List Wait_T} {w : Wait_T} (h : w ∈ W) : (dropFw W w.1).length < W.length := by
 unfold dropFw
 exact List.length_filter_lt_length_iff_exists.2 ⟨w, h, by simp⟩
def hh0 (D : Desk_T) (now : Int) (a : List Wait_T) : St := { fr := [(3, .ptr 48 0 0 0), (4, .ptr 64 0 0 0), (5, aV a), (6, .slc true [])], bs := (48, boxB [.int .i64 now]) :: (64, boxB (Tu.mk Desk_tfs D)) :: aB a, df := [] }
def posR (D : Desk_T) (now : Int) : Int := firstN (fun w => mayQd D.1.2 D.2.2 now w) D.2.2 0
def nextD (D : Desk_T) (now : Int) (w : Wait_T) : Desk_T := ((false, letsL D.1.2 now w), (D.2.2.isEmpty, letsW D.2.2 w))
theorem r0_e (D : Desk_T) (now : Int) (a : List Wait_T) (hL : D.1.2.length ≤ 1000) (hW : D.2.2.length ≤ 1000) (hn : 0 ≤ now ∧ now ≤ 1000000) (ha : a.length ≤ 1000) : stepK Try.prog cfg Ru1 r2P 14 0 (hh0 D now a) = if posR D now < 0 then some (.inr (.exit 0, hh0 D now a)) else some (.inl (hh0 (nextD D now (D.2.2.getD (posR D now).toNat (0, 0, 0, 0))) now (a ++ [D.2.2.getD (posR D now).toNat (0, 0, 0, 0)]))) := by
 have hp : posR D now = -1 ∨ (0 ≤ posR D now ∧ posR D now < D.2.2.length) := firstN_lt _ _
 have e0 : ixiF (D.2, (D, now)) = posR D now := rfl
 cases a with
 | nil =>
  refine (r0s0_w D now).trans ?_
  unfold r0s0_r
  refine oK_pkq (Q := (· = _)) ixXA_inj (D.2, (D, now)) ⟨Nat.le_trans hW (by decide), hL, hW⟩ ?_
  dsimp only
  rw [e0]
  generalize posR D now = q at hp
  refine bK_iq (Q := (· = _)) (fun c => ?_) (fun c => ?_)
  ·rw [if_pos c]; rfl
  ·rw [if_neg c]
   refine oK_atq (Q := (· = _)) (fs := Wait_tfs) (0, 0, 0, 0) (by omega) (by omega) ?_
   generalize D.2.2.getD q.toNat (0, 0, 0, 0) = v
   exact oK_fsq (Q := (· = _)) dletsS (D.1, D.2, now, v) ⟨⟨Nat.le_trans hL (by decide), Nat.le_trans hW (by decide)⟩, hn⟩ rfl
 | cons a0 ar =>
  refine (r0s1_w D now (a0 :: ar)).trans ?_
  unfold r0s1_r
  refine oK_pkq (Q := (· = _)) ixXA_inj (D.2, (D, now)) ⟨Nat.le_trans hW (by decide), hL, hW⟩ ?_
  dsimp only
  rw [e0]
  generalize posR D now = q at hp
  refine bK_iq (Q := (· = _)) (fun c => ?_) (fun c => ?_)
  ·rw [if_pos c]; rfl
  ·rw [if_neg c]
   refine oK_atq (Q := (· = _)) (fs := Wait_tfs) (0, 0, 0, 0) (by omega) (by omega) ?_
   generalize D.2.2.getD q.toNat (0, 0, 0, 0) = v
   refine oK_fsq (Q := (· = _)) dletsS (D.1, D.2, now, v) ⟨⟨Nat.le_trans hL (by decide), Nat.le_trans hW (by decide)⟩, hn⟩ ?_
   refine bK_tq (Q := (· = _)) (by simp) (bK_tq (Q := (· = _)) (by rw [Bool.and_eq_true]; exact ⟨by simp, wfit (by rw [List.length_map]; omega)⟩) ?_)
   unfold hh0
   rw [(aV_put (by simp) _).1, (aV_put (by simp) _).2]
   rfl
def rnN (now : Int) : Nat → Desk_T → List Wait_T → Desk_T × List Wait_T
 | 0, D, a => (D, a)
 | n + 1, D, a => if posR D now < 0 then (D, a) else rnN now n (nextD D now (D.2.2.getD (posR D now).toNat (0, 0, 0, 0))) (a ++ [D.2.2.getD (posR D now).toNat (0, 0, 0, 0)])
theorem next_len {D : Desk_T} {now : Int} (h : ¬ posR D now < 0) : (nextD D now (D.2.2.getD (posR D now).toNat (0, 0, 0, 0))).2.2.length < D.2.2.length ∧ (nextD D now (D.2.2.getD (posR D now).toNat (0, 0, 0, 0))).1.2.length ≤ D.1.2.length + 1 := by
 have hp : posR D now = -1 ∨ (0 ≤ posR D now ∧ posR D now < D.2.2.length) := firstN_lt _ _
 have hlt : (posR D now).toNat < D.2.2.length := by omega
 rw [getD_at hlt]
 exact ⟨dropF_lt (List.getElem_mem hlt), granQ_len _ _⟩
theorem r0_run (now : Int) (hn : 0 ≤ now ∧ now ≤ 1000000) : ∀ (n : Nat) (D : Desk_T) (a : List Wait_T), D.2.2.length ≤ n → D.1.2.length + n ≤ 1000 → a.length + n ≤ 1000 → ∀ (fu : Nat), n < fu → Runs' Try.prog cfg Ru1 14 0 fu (hh0 D now a) (.exit 0, hh0 (rnN now n D a).1 now (rnN now n D a).2)
 | 0, D, a, h1, h2, h3, fu + 1, hf => by
  have hs := r0_e D now a (by omega) (by omega) hn (by omega)
  have hp : posR D now = -1 ∨ (0 ≤ posR D now ∧ posR D now < D.2.2.length) := firstN_lt _ _
  rw [if_pos (by omega)] at hs
  exact Runs'.done (lp := r2P) r2P_ok ra140 hs
 | n + 1, D, a, h1, h2, h3, fu + 1, hf => by
  have hs := r0_e D now a (by omega) (by omega) hn (by omega)
  unfold rnN
  by_cases hc : posR D now < 0
  ·rw [if_pos hc] at hs ⊢
   exact Runs'.done (lp := r2P) r2P_ok ra140 hs
  ·obtain ⟨l1, l2⟩ := next_len hc
   rw [if_neg hc] at hs ⊢
   exact Runs'.step (lp := r2P) r2P_ok ra140 hs (r0_run now hn n _ _ (by omega) (by omega) (by simp; omega) fu (by omega))
def r0Hd (d : Desk_T × Int) : St := r0h0 d.1 d.2
theorem r0Hd_inj (d d' : Desk_T × Int) (h : r0Hd d = r0Hd d') : d = d' := by
 obtain ⟨D, now⟩ := d
 obtain ⟨D', now'⟩ := d'
 simp only [r0Hd, r0h0, boxB, St.mk.injEq, List.cons.injEq, Prod.mk.injEq, AV.int.injEq, Blk.mk.injEq, and_true, true_and] at h
 rw [h.1, mk_inj (fs := Desk_tfs) rfl h.2]
def rnD (D : Desk_T) (now : Int) : Desk_T := (rnN now D.2.2.length D []).1
def rnA (D : Desk_T) (now : Int) : List Wait_T := (rnN now D.2.2.length D []).2
noncomputable def r0L : LP := LP.of r0Hd (fun d => d.1.2.2.length ≤ 50 ∧ d.1.1.2.length ≤ 50 ∧ 0 ≤ d.2 ∧ d.2 ≤ 1000000) fun d => .ite (noW (rnA d.1 d.2)) (.leaf (.exit 0, { fr := [(3, .ptr 48 0 0 0), (4, .ptr 64 0 0 0), (5, .slc true []), (6, .slc true [])], bs := [(48, boxB [.int .i64 d.2]), (64, boxB (Tu.mk Desk_tfs (rnD d.1 d.2)))], df := [] })) (.leaf (.exit 0, { fr := [(3, .ptr 48 0 0 0), (4, .ptr 64 0 0 0), (5, .sref 560 0 0 ((rnA d.1 d.2).map (mkV true Wait_tfs)).length), (6, .slc true [])], bs := [(48, boxB [.int .i64 d.2]), (64, boxB (Tu.mk Desk_tfs (rnD d.1 d.2))), (560, { v := 0, k := .row, fz := false, sz := 4, es := (rnA d.1 d.2).map (mkV true Wait_tfs) })], df := [] }))
noncomputable def r0P : LPs := LPs.add r2P 14 0 r0L
theorem r0P_ok : LPok Try.prog cfg Ru1 r0P 14 := LPok.addH r2P_ok ro14 (by
 rintro ⟨D, now⟩ ⟨h1, h2, h3, h4⟩
 simp only at h1 h2 h3 h4
 have hr := r0_run now ⟨h3, h4⟩ D.2.2.length D [] (Nat.le_refl _) (by omega) (by simp only [List.length_nil]; omega) rounds (by simp only [rounds]; omega)
 refine cast ?_ hr
 have e1 : (rnN now D.2.2.length D []).1 = rnD D now := rfl
 have e2 : (rnN now D.2.2.length D []).2 = rnA D now := rfl
 rw [e1, e2]
 congr 1
 dsimp only
 cases rnA D now with
 | nil => rfl
 | cons a0 ar => rfl)
abbrev drun_id : Nat := 14
abbrev drun_sh : Shp := [some 2, none]
abbrev drun_fs : List Lf := [.fl true Lease_tfs, .fl true Wait_tfs, .fi .i64]
abbrev drun_rsh : Shp := [some 2, none, none]
abbrev drun_rfs : List Lf := [.fl true Lease_tfs, .fl true Wait_tfs, .fl true Wait_tfs, .fl true [.fi .i64, .fi .i64]]
noncomputable def drun_r (d_Leases_x : Bool) (d_Leases : List Lease_T) (d_Line_x : Bool) (d_Line : List Wait_T) (now : Int) : Option Ret :=
 oK (prunedS.dec [AV.agg [sl d_Leases_x d_Leases, sl d_Line_x d_Line], i6 now] []) fun (d0 : LW × LW × Int) =>
 oK (r0L.dec (sf [(3, pt 48), (4, pt 64), (5, .slc true []), (6, .slc true [])] [(48, (bx [i6 now])), (64, (bx [sl d0.1.2.isEmpty (pruneQ d0.1.2 d0.2.2), sl d0.2.1.2.isEmpty d0.2.1.2]))])) fun (d1 : Desk_T × Int) =>
 bK (noW (rnA d1.1 d1.2))
 (oK (r2L.dec (sf [(3, pt 48), (4, pt 64), (5, .slc true []), (6, .slc true []), (37, .slc (rnD d1.1 d1.2).2.1 (mW (rnD d1.1 d1.2).2.2)), (38, i6 (↑(mW (rnD d1.1 d1.2).2.2).length : Int)), (39, i6 0)] [(48, (bx [i6 d1.2])), (64, (bx [.slc (rnD d1.1 d1.2).1.1 (mW (rnD d1.1 d1.2).1.2), .slc (rnD d1.1 d1.2).2.1 (mW (rnD d1.1 d1.2).2.2)]))])) fun (d2 : (Desk_T × Int) × LW × List Wait_T) =>
 bK (noW d2.2.2) (bK (noP (callsQ d2.1.1.1.2 d2.2.1.2 d2.1.2)) (some (rt (.tup [AV.agg [sl d2.1.1.1.1 d2.1.1.1.2, sl d2.1.1.2.1 d2.1.1.2.2], .slc true [], .slc true []]))) (bK (decide (0 + (m2 (callsQ d2.1.1.1.2 d2.2.1.2 d2.1.2)).length ≤ (m2 (callsQ d2.1.1.1.2 d2.2.1.2 d2.1.2)).length)) (some (rt (.tup [AV.agg [sl d2.1.1.1.1 d2.1.1.1.2, sl d2.1.1.2.1 d2.1.1.2.2], .slc true [], .slc false (List.take (m2 (callsQ d2.1.1.1.2 d2.2.1.2 d2.1.2)).length (List.drop 0 (m2 (callsQ d2.1.1.1.2 d2.2.1.2 d2.1.2))))]))) none))
 (bK (noP (callsQ d2.1.1.1.2 d2.2.1.2 d2.1.2)) (bK (decide (0 + (mW d2.2.2).length ≤ (mW d2.2.2).length)) (some (rt (.tup [AV.agg [sl d2.1.1.1.1 d2.1.1.1.2, sl d2.1.1.2.1 d2.1.1.2.2], .slc false (List.take (mW d2.2.2).length (List.drop 0 (mW d2.2.2))), .slc true []]))) none)
 (bK (decide (0 + (mW d2.2.2).length ≤ (mW d2.2.2).length)) (bK (decide (0 + (m2 (callsQ d2.1.1.1.2 d2.2.1.2 d2.1.2)).length ≤ (m2 (callsQ d2.1.1.1.2 d2.2.1.2 d2.1.2)).length)) (some (rt (.tup [AV.agg [sl d2.1.1.1.1 d2.1.1.1.2, sl d2.1.1.2.1 d2.1.1.2.2], .slc false (List.take (mW d2.2.2).length (List.drop 0 (mW d2.2.2))), .slc false (List.take (m2 (callsQ d2.1.1.1.2 d2.2.1.2 d2.1.2)).length (List.drop 0 (m2 (callsQ d2.1.1.1.2 d2.2.1.2 d2.1.2))))]))) none) none)))
 (oK (r2L.dec (sf [(3, pt 48), (4, pt 64), (5, .sref 560 0 0 (mW (rnA d1.1 d1.2)).length), (6, .slc true []), (37, .slc (rnD d1.1 d1.2).2.1 (mW (rnD d1.1 d1.2).2.2)), (38, i6 (↑(mW (rnD d1.1 d1.2).2.2).length : Int)), (39, i6 0)] [(48, (bx [i6 d1.2])), (64, (bx [.slc (rnD d1.1 d1.2).1.1 (mW (rnD d1.1 d1.2).1.2), .slc (rnD d1.1 d1.2).2.1 (mW (rnD d1.1 d1.2).2.2)])), (560, (rw4 (rnA d1.1 d1.2)))])) fun (d3 : (Desk_T × Int) × LW × List Wait_T) =>
 bK (noW d3.2.2) (bK (noP (callsQ d3.1.1.1.2 d3.2.1.2 d3.1.2)) (some (rt (.tup [AV.agg [sl d3.1.1.1.1 d3.1.1.1.2, sl d3.1.1.2.1 d3.1.1.2.2], .slc true [], .slc true []]))) (bK (decide (0 + (m2 (callsQ d3.1.1.1.2 d3.2.1.2 d3.1.2)).length ≤ (m2 (callsQ d3.1.1.1.2 d3.2.1.2 d3.1.2)).length)) (some (rt (.tup [AV.agg [sl d3.1.1.1.1 d3.1.1.1.2, sl d3.1.1.2.1 d3.1.1.2.2], .slc true [], .slc false (List.take (m2 (callsQ d3.1.1.1.2 d3.2.1.2 d3.1.2)).length (List.drop 0 (m2 (callsQ d3.1.1.1.2 d3.2.1.2 d3.1.2))))]))) none))
 (bK (noP (callsQ d3.1.1.1.2 d3.2.1.2 d3.1.2)) (bK (decide (0 + (mW d3.2.2).length ≤ (mW d3.2.2).length)) (some (rt (.tup [AV.agg [sl d3.1.1.1.1 d3.1.1.1.2, sl d3.1.1.2.1 d3.1.1.2.2], .slc false (List.take (mW d3.2.2).length (List.drop 0 (mW d3.2.2))), .slc true []]))) none)
 (bK (decide (0 + (mW d3.2.2).length ≤ (mW d3.2.2).length)) (bK (decide (0 + (m2 (callsQ d3.1.1.1.2 d3.2.1.2 d3.1.2)).length ≤ (m2 (callsQ d3.1.1.1.2 d3.2.1.2 d3.1.2)).length)) (some (rt (.tup [AV.agg [sl d3.1.1.1.1 d3.1.1.1.2, sl d3.1.1.2.1 d3.1.1.2.2], .slc false (List.take (mW d3.2.2).length (List.drop 0 (mW d3.2.2))), .slc false (List.take (m2 (callsQ d3.1.1.1.2 d3.2.1.2 d3.1.2)).length (List.drop 0 (m2 (callsQ d3.1.1.1.2 d3.2.1.2 d3.1.2))))]))) none) none)))
theorem drun_w (d_Leases_x : Bool) (d_Leases : List Lease_T) (d_Line_x : Bool) (d_Line : List Wait_T) (now : Int) : unitQ Try.prog cfg Ru1 r0P false 14 (groupA drun_sh (Tu.mk drun_fs ((d_Leases_x, d_Leases), (d_Line_x, d_Line), now))) [] = drun_r d_Leases_x d_Leases d_Line_x d_Line now := by kernel_rfl

end Go.Proofs.Ytkanmigbbpppnaa
