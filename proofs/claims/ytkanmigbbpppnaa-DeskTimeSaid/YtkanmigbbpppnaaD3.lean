/- A part of the proof: contracts of functions. -/
import Derived.Test.YtkanmigbbpppnaaC3
import Derived.Test.YtkanmigbbpppnaaAbAny

set_option linter.unusedVariables false
set_option linter.unusedSimpArgs false
set_option maxRecDepth 100000
namespace Go.Proofs.Ytkanmigbbpppnaa
open Go Go.Ab
noncomputable def f0s0 (D : Desk_T) (now : Int) (i : Int) : Option (St ⊕ (Ex × St)) := stepK Try.prog cfg Rc4 e2P 15 0 (e0h0 D now i)
noncomputable def f0s0_r (D : Desk_T) (now : Int) (i : Int) : Option (St ⊕ Ex × St) :=
 bK (decide (i < (↑(mW D.2.2).length : Int)))
 (oK (elemAt true Wait_tfs (mW D.2.2) i) fun (d0 : Int × Int × Int × Int) =>
 oK (dfreeS.dec [AV.agg [sl D.1.1 D.1.2, sl D.2.1 D.2.2], i6 now, AV.agg [i6 d0.1, i6 d0.2.1, i6 d0.2.2.1, i6 d0.2.2.2]] []) fun (d1 : LW × LW × Int × Int × Int × Int × Int) =>
 bK (!freeQ d1.1.2 d1.2.1.2 d1.2.2.1 d1.2.2.2) (some (.inl (sf [(1, i6 now), (2, pt 32), (4, pt 64), (7, .slc true []), (8, i6 (IntKind.i64.wrap (i + 1)))] [(32, (bx [sl D.1.1 D.1.2, sl D.2.1 D.2.2])), (64, (bx [.slc true [], .slc true []]))])))
 (oK (dlendsS.dec [AV.agg [sl D.1.1 D.1.2, sl D.2.1 D.2.2], i6 now, AV.agg [i6 d0.1, i6 d0.2.1, i6 d0.2.2.1, i6 d0.2.2.2]] []) fun (d2 : LW × LW × Int × Int × Int × Int × Int) => some (.inl (sf [(1, i6 now), (2, pt 32), (4, pt 64), (7, .sref 688 0 0 1), (8, i6 0)] [(32, (bx [sl false (lendL d2.1.2 d2.2.2.1 d2.2.2.2), .slc (dropFw d2.2.1.2 d2.2.2.2.1).isEmpty (mW (dropFw d2.2.1.2 d2.2.2.2.1))])), (64, (bx [.slc true [], .slc true []])), (688, { v := 0, k := .row, fz := false, sz := 4, es := [AV.agg [i6 d0.1, i6 d0.2.1, i6 d0.2.2.1, i6 d0.2.2.2]] })]))))
 (some (.inr (.exit 0, (sf [(1, i6 now), (2, pt 32), (4, pt 64), (7, .slc true [])] [(32, (bx [sl D.1.1 D.1.2, sl D.2.1 D.2.2])), (64, (bx [.slc true [], .slc true []]))]))))
theorem f0s0_w (D : Desk_T) (now : Int) (i : Int) : f0s0 D now i = f0s0_r D now i := by kernel_rfl

noncomputable def f0s1 (D : Desk_T) (now : Int) (i : Int) (a : List Wait_T) : Option (St ⊕ (Ex × St)) := stepK Try.prog cfg Rc4 e2P 15 0 (e0h1 D now i a)
noncomputable def f0s1_r (D : Desk_T) (now : Int) (i : Int) (a : List Wait_T) : Option (St ⊕ Ex × St) :=
 bK (decide (i < (↑(mW D.2.2).length : Int)))
 (oK (elemAt true Wait_tfs (mW D.2.2) i) fun (d0 : Int × Int × Int × Int) =>
 oK (dfreeS.dec [AV.agg [sl D.1.1 D.1.2, sl D.2.1 D.2.2], i6 now, AV.agg [i6 d0.1, i6 d0.2.1, i6 d0.2.2.1, i6 d0.2.2.2]] []) fun (d1 : LW × LW × Int × Int × Int × Int × Int) =>
 bK (!freeQ d1.1.2 d1.2.1.2 d1.2.2.1 d1.2.2.2) (some (.inl (sf [(1, i6 now), (2, pt 32), (4, pt 64), (7, .sref 688 0 0 (mW a).length), (8, i6 (IntKind.i64.wrap (i + 1)))] [(32, (bx [sl D.1.1 D.1.2, sl D.2.1 D.2.2])), (64, (bx [.slc true [], .slc true []])), (688, (rw4 a))])))
 (bK (decide (0 + (mW a).length ≤ (mW a).length))
 (bK (decide (0 = 0 ∧ (mW a).length = (mW a).length) && bytesFit Try.prog 25 ((mW a).length + 1)) (oK (dlendsS.dec [AV.agg [sl D.1.1 D.1.2, sl D.2.1 D.2.2], i6 now, AV.agg [i6 d0.1, i6 d0.2.1, i6 d0.2.2.1, i6 d0.2.2.2]] []) fun (d2 : LW × LW × Int × Int × Int × Int × Int) => some (.inl (sf [(1, i6 now), (2, pt 32), (4, pt 64), (7, .sref 688 0 0 ((mW a).length + 1)), (8, i6 0)] [(32, (bx [sl false (lendL d2.1.2 d2.2.2.1 d2.2.2.2), .slc (dropFw d2.2.1.2 d2.2.2.2.1).isEmpty (mW (dropFw d2.2.1.2 d2.2.2.2.1))])), (64, (bx [.slc true [], .slc true []])), (688, { v := 0, k := .row, fz := false, sz := 4, es := List.take (mW a).length (mW a) ++ [AV.agg [i6 d0.1, i6 d0.2.1, i6 d0.2.2.1, i6 d0.2.2.2]] })])))
 none)
 none))
 (some (.inr (.exit 0, (sf [(1, i6 now), (2, pt 32), (4, pt 64), (7, .sref 688 0 0 (mW a).length)] [(32, (bx [sl D.1.1 D.1.2, sl D.2.1 D.2.2])), (64, (bx [.slc true [], .slc true []])), (688, (rw4 a))]))))
theorem f0s1_w (D : Desk_T) (now : Int) (i : Int) (a : List Wait_T) : f0s1 D now i a = f0s1_r D now i a := by kernel_rfl

def gg0 (D : Desk_T) (now : Int) (i : Int) (a : List Wait_T) : St := { fr := [(1, .int .i64 now), (2, .ptr 32 0 0 0), (4, .ptr 64 0 0 0), (7, uV a), (8, .int .i64 i)], bs := (32, boxB (Tu.mk Desk_tfs D)) :: (64, boxB [.slc true [], .slc true []]) :: uB a, df := [] }
def gg0x (D : Desk_T) (now : Int) (a : List Wait_T) : St := { fr := [(1, .int .i64 now), (2, .ptr 32 0 0 0), (4, .ptr 64 0 0 0), (7, uV a)], bs := (32, boxB (Tu.mk Desk_tfs D)) :: (64, boxB [.slc true [], .slc true []]) :: uB a, df := [] }
def nextR (D : Desk_T) (now : Int) (w : Wait_T) : Desk_T := ((false, lendL D.1.2 now w), ((dropFw D.2.2 w.1).isEmpty, dropFw D.2.2 w.1))
theorem f0_e (D : Desk_T) (now : Int) (i : Nat) (a : List Wait_T) (hi : i < D.2.2.length) (hL : D.1.2.length ≤ 1000) (hW : D.2.2.length ≤ 1000) (hn : 0 ≤ now ∧ now ≤ 1000000) (ha : a.length ≤ 1000) : stepK Try.prog cfg Rc4 e2P 15 0 (gg0 D now i a) = if freeQ D.1.2 D.2.2 now D.2.2[i] = true then some (.inl (gg0 (nextR D now D.2.2[i]) now 0 (a ++ [D.2.2[i]]))) else some (.inl (gg0 D now ((i + 1 : Nat) : Int) a)) := by
 have e1 : IntKind.i64.wrap ((i : Int) + 1) = ((i + 1 : Nat) : Int) := by rw [w64 (by omega) (by omega)]; omega
 have e2 : D.2.2.getD (i : Int).toNat (0, 0, 0, 0) = D.2.2[i] := by rw [Int.toNat_natCast, getD_at hi]
 have at_ : ∀ {Q : Option (St ⊕ (Ex × St)) → Prop} {g : Wait_T → Option (St ⊕ (Ex × St))}, Q (g D.2.2[i]) → Q (oK (elemAt true Wait_tfs (D.2.2.map (mkV true Wait_tfs)) i) g) := fun hg => oK_atq (fs := Wait_tfs) (0, 0, 0, 0) (by omega) (by simpa using hi) (by rw [e2]; exact hg)
 generalize hw : D.2.2[i] = v at at_
 have hlen : D.1.2.length ≤ 100000 ∧ D.2.2.length ≤ 100000 := ⟨Nat.le_trans hL (by decide), Nat.le_trans hW (by decide)⟩
 cases a with
 | nil =>
  refine (f0s0_w D now i).trans ?_
  unfold f0s0_r
  refine bK_tq (Q := (· = _)) (by simp; omega) ?_
  refine at_ (Q := (· = _)) ?_
  refine oK_fsq (Q := (· = _)) dfreeS (D.1, D.2, now, v) hlen ?_
  dsimp only
  cases hf : freeQ D.1.2 D.2.2 now v with
  | false =>
   refine bK_tq (Q := (· = _)) rfl ?_
   rw [if_neg (by simp), e1]; rfl
  | true =>
   refine bK_fq (Q := (· = _)) rfl ?_
   rw [if_pos rfl]
   exact oK_fsq (Q := (· = _)) dlendsS (D.1, D.2, now, v) ⟨hlen, hn⟩ rfl
 | cons a0 ar =>
  refine (f0s1_w D now i (a0 :: ar)).trans ?_
  unfold f0s1_r
  refine bK_tq (Q := (· = _)) (by simp; omega) ?_
  refine at_ (Q := (· = _)) ?_
  refine oK_fsq (Q := (· = _)) dfreeS (D.1, D.2, now, v) hlen ?_
  dsimp only
  cases hf : freeQ D.1.2 D.2.2 now v with
  | false =>
   refine bK_tq (Q := (· = _)) rfl ?_
   rw [if_neg (by simp), e1]; rfl
  | true =>
   refine bK_fq (Q := (· = _)) rfl ?_
   rw [if_pos rfl]
   refine bK_tq (Q := (· = _)) (by simp) (bK_tq (Q := (· = _)) (by rw [Bool.and_eq_true]; exact ⟨by simp, wfit (by rw [List.length_map]; omega)⟩) ?_)
   refine oK_fsq (Q := (· = _)) dlendsS (D.1, D.2, now, v) ⟨hlen, hn⟩ ?_
   unfold gg0
   rw [(uV_put (by simp) _).1, (uV_put (by simp) _).2]
   rfl
theorem f0_x (D : Desk_T) (now : Int) (i : Int) (a : List Wait_T) (hk : ¬ i < (D.2.2.length : Int)) : stepK Try.prog cfg Rc4 e2P 15 0 (gg0 D now i a) = some (.inr (.exit 0, gg0x D now a)) := by
 cases a with
 | nil =>
  refine (f0s0_w D now i).trans ?_
  unfold f0s0_r
  exact bK_neg (by rw [List.length_map]; exact decide_eq_false hk)
 | cons a0 ar =>
  refine (f0s1_w D now i (a0 :: ar)).trans ?_
  unfold f0s1_r
  exact bK_neg (by rw [List.length_map]; exact decide_eq_false hk)
def rrN (now : Int) : Nat → Nat → Desk_T → List Wait_T → Desk_T × List Wait_T
 | 0, _, D, a => (D, a)
 | n + 1, i, D, a => if h : i < D.2.2.length then (if freeQ D.1.2 D.2.2 now D.2.2[i] = true then rrN now n 0 (nextR D now D.2.2[i]) (a ++ [D.2.2[i]]) else rrN now n (i + 1) D a) else (D, a)
theorem nextR_len {D : Desk_T} {now : Int} {w : Wait_T} (h : w ∈ D.2.2) : (nextR D now w).2.2.length < D.2.2.length ∧ (nextR D now w).1.2.length ≤ D.1.2.length + 1 := ⟨dropF_lt h, (gref_len _ _).1⟩
theorem f0_run (now : Int) (hn : 0 ≤ now ∧ now ≤ 1000000) : ∀ (n i : Nat) (D : Desk_T) (a : List Wait_T), D.2.2.length ≤ 50 → D.2.2.length * 51 + (D.2.2.length - i) ≤ n → D.1.2.length + D.2.2.length ≤ 1000 → a.length + D.2.2.length ≤ 1000 → ∀ (fu : Nat), n < fu → Runs' Try.prog cfg Rc4 15 0 fu (gg0 D now i a) (.exit 0, gg0x (rrN now n i D a).1 now (rrN now n i D a).2)
 | 0, i, D, a, h0, h1, h2, h3, fu + 1, hf => Runs'.done (lp := e2P) e2P_ok ea150 (f0_x D now i a (by omega))
 | n + 1, i, D, a, h0, h1, h2, h3, fu + 1, hf => by
  unfold rrN
  by_cases hi : i < D.2.2.length
  ·have hs := f0_e D now i a hi (by omega) (by omega) hn (by omega)
   rw [dif_pos hi]
   obtain ⟨l1, l2⟩ := nextR_len (D := D) (now := now) (List.getElem_mem hi)
   generalize D.2.2[i] = v at hs l1 l2
   by_cases hc : freeQ D.1.2 D.2.2 now v = true
   ·rw [if_pos hc] at hs ⊢
    exact Runs'.step (lp := e2P) e2P_ok ea150 hs (f0_run now hn n 0 _ _ (by omega) (by omega) (by omega) (by simp; omega) fu (by omega))
   ·rw [if_neg hc] at hs ⊢
    exact Runs'.step (lp := e2P) e2P_ok ea150 hs (f0_run now hn n (i + 1) _ _ (by omega) (by omega) (by omega) (by omega) fu (by omega))
  ·rw [dif_neg hi]
   exact Runs'.done (lp := e2P) e2P_ok ea150 (f0_x D now i a (by omega))
def f0Hd (d : Desk_T × Int) : St := e0h0 d.1 d.2 0
theorem f0Hd_inj (d d' : Desk_T × Int) (h : f0Hd d = f0Hd d') : d = d' := by
 obtain ⟨D, now⟩ := d
 obtain ⟨D', now'⟩ := d'
 simp only [f0Hd, e0h0, boxB, St.mk.injEq, List.cons.injEq, Prod.mk.injEq, AV.int.injEq, Blk.mk.injEq, and_true, true_and] at h
 rw [h.1, mk_inj (fs := Desk_tfs) rfl h.2]
def rrD (D : Desk_T) (now : Int) : Desk_T := (rrN now (D.2.2.length * 51 + D.2.2.length) 0 D []).1
def rrA (D : Desk_T) (now : Int) : List Wait_T := (rrN now (D.2.2.length * 51 + D.2.2.length) 0 D []).2
noncomputable def f0L : LP := LP.of f0Hd (fun d => d.1.2.2.length ≤ 50 ∧ d.1.1.2.length ≤ 500 ∧ 0 ≤ d.2 ∧ d.2 ≤ 1000000) fun d => .ite (noW (rrA d.1 d.2)) (.leaf (.exit 0, { fr := [(1, .int .i64 d.2), (2, .ptr 32 0 0 0), (4, .ptr 64 0 0 0), (7, .slc true [])], bs := [(32, boxB (Tu.mk Desk_tfs (rrD d.1 d.2))), (64, boxB [.slc true [], .slc true []])], df := [] })) (.leaf (.exit 0, { fr := [(1, .int .i64 d.2), (2, .ptr 32 0 0 0), (4, .ptr 64 0 0 0), (7, .sref 688 0 0 ((rrA d.1 d.2).map (mkV true Wait_tfs)).length)], bs := [(32, boxB (Tu.mk Desk_tfs (rrD d.1 d.2))), (64, boxB [.slc true [], .slc true []]), (688, { v := 0, k := .row, fz := false, sz := 4, es := (rrA d.1 d.2).map (mkV true Wait_tfs) })], df := [] }))
noncomputable def f0P : LPs := LPs.add e2P 15 0 f0L
theorem f0P_ok : LPok Try.prog cfg Rc4 f0P 15 := LPok.addH e2P_ok eo15 (by
 rintro ⟨D, now⟩ ⟨h1, h2, h3, h4⟩
 simp only at h1 h2 h3 h4
 have hr := f0_run now ⟨h3, h4⟩ (D.2.2.length * 51 + D.2.2.length) 0 D [] h1 (by omega) (by omega) (by simp only [List.length_nil]; omega) rounds (by simp only [rounds]; omega)
 refine cast ?_ hr
 have e1 : (rrN now (D.2.2.length * 51 + D.2.2.length) 0 D []).1 = rrD D now := rfl
 have e2 : (rrN now (D.2.2.length * 51 + D.2.2.length) 0 D []).2 = rrA D now := rfl
 rw [e1, e2]
 congr 1
 dsimp only
 cases rrA D now with
 | nil => rfl
 | cons a0 ar => rfl)
abbrev rrun_id : Nat := 15
abbrev rrun_sh : Shp := [some 2, none]
abbrev rrun_fs : List Lf := [.fl true Lease_tfs, .fl true Wait_tfs, .fi .i64]
abbrev rrun_rsh : Shp := [some 2, none, none]
abbrev rrun_rfs : List Lf := [.fl true Lease_tfs, .fl true Wait_tfs, .fl true Wait_tfs, .fl true [.fi .i64, .fi .i64]]
noncomputable def rrun_r (d_Leases_x : Bool) (d_Leases : List Lease_T) (d_Line_x : Bool) (d_Line : List Wait_T) (now : Int) : Option Ret :=
 oK (prefS.dec [sl d_Leases_x d_Leases, i6 now] []) fun (d0 : LW × Int) =>
 oK (f0L.dec (sf [(1, i6 now), (2, pt 32), (4, pt 64), (7, .slc true []), (8, i6 0)] [(32, (bx [.slc (pruneQ d0.1.2 d0.2).isEmpty (mW (pruneQ d0.1.2 d0.2)), sl d_Line_x d_Line])), (64, (bx [.slc true [], .slc true []]))])) fun (d1 : Desk_T × Int) =>
 bK (noW (rrA d1.1 d1.2))
 (oK (e2L.dec (sf [(1, i6 d1.2), (2, pt 32), (4, pt 64), (7, .slc true []), (10, .slc true []), (11, i6 0)] [(32, (bx [.slc (rrD d1.1 d1.2).1.1 (mW (rrD d1.1 d1.2).1.2), .slc (rrD d1.1 d1.2).2.1 (mW (rrD d1.1 d1.2).2.2)])), (64, (bx [.slc true [], .slc true []]))])) fun (d2 : (Desk_T × Int) × List Wait_T) =>
 bK (noW d2.2) (bK (noP (calRQ d2.1.1.1.2 d2.1.1.2.2 d2.1.2)) (some (rt (.tup [AV.agg [sl d2.1.1.1.1 d2.1.1.1.2, sl d2.1.1.2.1 d2.1.1.2.2], .slc true [], .slc true []]))) (bK (decide (0 + (m2 (calRQ d2.1.1.1.2 d2.1.1.2.2 d2.1.2)).length ≤ (m2 (calRQ d2.1.1.1.2 d2.1.1.2.2 d2.1.2)).length)) (some (rt (.tup [AV.agg [sl d2.1.1.1.1 d2.1.1.1.2, sl d2.1.1.2.1 d2.1.1.2.2], .slc true [], .slc false (List.take (m2 (calRQ d2.1.1.1.2 d2.1.1.2.2 d2.1.2)).length (List.drop 0 (m2 (calRQ d2.1.1.1.2 d2.1.1.2.2 d2.1.2))))]))) none))
 (bK (noP (calRQ d2.1.1.1.2 d2.1.1.2.2 d2.1.2)) (bK (decide (0 + (mW d2.2).length ≤ (mW d2.2).length)) (some (rt (.tup [AV.agg [sl d2.1.1.1.1 d2.1.1.1.2, sl d2.1.1.2.1 d2.1.1.2.2], .slc false (List.take (mW d2.2).length (List.drop 0 (mW d2.2))), .slc true []]))) none)
 (bK (decide (0 + (mW d2.2).length ≤ (mW d2.2).length)) (bK (decide (0 + (m2 (calRQ d2.1.1.1.2 d2.1.1.2.2 d2.1.2)).length ≤ (m2 (calRQ d2.1.1.1.2 d2.1.1.2.2 d2.1.2)).length)) (some (rt (.tup [AV.agg [sl d2.1.1.1.1 d2.1.1.1.2, sl d2.1.1.2.1 d2.1.1.2.2], .slc false (List.take (mW d2.2).length (List.drop 0 (mW d2.2))), .slc false (List.take (m2 (calRQ d2.1.1.1.2 d2.1.1.2.2 d2.1.2)).length (List.drop 0 (m2 (calRQ d2.1.1.1.2 d2.1.1.2.2 d2.1.2))))]))) none) none)))
 (oK (e2L.dec (sf [(1, i6 d1.2), (2, pt 32), (4, pt 64), (7, .sref 688 0 0 (mW (rrA d1.1 d1.2)).length), (10, .slc true []), (11, i6 0)] [(32, (bx [.slc (rrD d1.1 d1.2).1.1 (mW (rrD d1.1 d1.2).1.2), .slc (rrD d1.1 d1.2).2.1 (mW (rrD d1.1 d1.2).2.2)])), (64, (bx [.slc true [], .slc true []])), (688, (rw4 (rrA d1.1 d1.2)))])) fun (d3 : (Desk_T × Int) × List Wait_T) =>
 bK (noW d3.2) (bK (noP (calRQ d3.1.1.1.2 d3.1.1.2.2 d3.1.2)) (some (rt (.tup [AV.agg [sl d3.1.1.1.1 d3.1.1.1.2, sl d3.1.1.2.1 d3.1.1.2.2], .slc true [], .slc true []]))) (bK (decide (0 + (m2 (calRQ d3.1.1.1.2 d3.1.1.2.2 d3.1.2)).length ≤ (m2 (calRQ d3.1.1.1.2 d3.1.1.2.2 d3.1.2)).length)) (some (rt (.tup [AV.agg [sl d3.1.1.1.1 d3.1.1.1.2, sl d3.1.1.2.1 d3.1.1.2.2], .slc true [], .slc false (List.take (m2 (calRQ d3.1.1.1.2 d3.1.1.2.2 d3.1.2)).length (List.drop 0 (m2 (calRQ d3.1.1.1.2 d3.1.1.2.2 d3.1.2))))]))) none))
 (bK (noP (calRQ d3.1.1.1.2 d3.1.1.2.2 d3.1.2)) (bK (decide (0 + (mW d3.2).length ≤ (mW d3.2).length)) (some (rt (.tup [AV.agg [sl d3.1.1.1.1 d3.1.1.1.2, sl d3.1.1.2.1 d3.1.1.2.2], .slc false (List.take (mW d3.2).length (List.drop 0 (mW d3.2))), .slc true []]))) none)
 (bK (decide (0 + (mW d3.2).length ≤ (mW d3.2).length)) (bK (decide (0 + (m2 (calRQ d3.1.1.1.2 d3.1.1.2.2 d3.1.2)).length ≤ (m2 (calRQ d3.1.1.1.2 d3.1.1.2.2 d3.1.2)).length)) (some (rt (.tup [AV.agg [sl d3.1.1.1.1 d3.1.1.1.2, sl d3.1.1.2.1 d3.1.1.2.2], .slc false (List.take (mW d3.2).length (List.drop 0 (mW d3.2))), .slc false (List.take (m2 (calRQ d3.1.1.1.2 d3.1.1.2.2 d3.1.2)).length (List.drop 0 (m2 (calRQ d3.1.1.1.2 d3.1.1.2.2 d3.1.2))))]))) none) none)))
theorem rrun_w (d_Leases_x : Bool) (d_Leases : List Lease_T) (d_Line_x : Bool) (d_Line : List Wait_T) (now : Int) : unitQ Try.prog cfg Rc4 f0P false 15 (groupA rrun_sh (Tu.mk rrun_fs ((d_Leases_x, d_Leases), (d_Line_x, d_Line), now))) [] = rrun_r d_Leases_x d_Leases d_Line_x d_Line now := by kernel_rfl

end Go.Proofs.Ytkanmigbbpppnaa
