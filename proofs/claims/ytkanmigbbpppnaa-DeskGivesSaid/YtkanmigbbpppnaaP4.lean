/- A part of the proof: contracts of functions. -/
import Derived.Test.YtkanmigbbpppnaaH4
import Derived.Test.YtkanmigbbpppnaaAbAny
set_option linter.unusedVariables false
set_option linter.unusedSimpArgs false
set_option maxRecDepth 100000
namespace Go.Proofs.Ytkanmigbbpppnaa
open Go Go.Ab
noncomputable def Gv1 : PKs := Nd4.add 12 dgiveS.pk
noncomputable def Gv2 : PKs := Gv1.add 14 drunS.pk
noncomputable def Gv3 : PKs := Gv2.add 16 swSw.pk
theorem Gv1_ok : PKsOk Try.prog Gv1 := PKsOk.anyF Nd4_ok 12 dgiveS dgiveO
theorem Gv2_ok : PKsOk Try.prog Gv2 := PKsOk.anyF Gv1_ok 14 drunS drunO
theorem Gv3_ok : PKsOk Try.prog Gv3 := PKsOk.anyF Gv2_ok 16 swSw swOw
def gvh0 (D : Desk_T) (now : Int) (fx : Bool) (fi : List Wait_T) (i : Int) : St := { fr := [(3, .ptr 48 0 0 0), (4, .int .i64 now), (5, .slc fx (fi.map (mkV true Wait_tfs))), (6, .slc true []), (7, .int .i64 i)], bs := [(48, boxB (Tu.mk Desk_tfs D))], df := [] }
noncomputable def gv_s0 (D : Desk_T) (now : Int) (fx : Bool) (fi : List Wait_T) (i : Int) : Option (St ⊕ (Ex × St)) := stepK Try.prog cfg Gv3 LP0 8 0 (gvh0 D now fx fi i)
noncomputable def gv_s0_r (D : Desk_T) (now : Int) (fx : Bool) (fi : List Wait_T) (i : Int) : Option (St ⊕ Ex × St) :=
 bK (decide (i < 12))
 (oK (dgiveS.dec [AV.agg [sl D.1.1 D.1.2, sl D.2.1 D.2.2], i6 1, i6 1] []) fun (d0 : LW × LW × Int × Int) =>
 oK (dgiveS.dec [AV.agg [sl d0.1.2.isEmpty (dropQ d0.1.2 d0.2.2.1 d0.2.2.2), sl d0.2.1.2.isEmpty d0.2.1.2], i6 1, i6 2] []) fun (d1 : LW × LW × Int × Int) =>
 oK (dgiveS.dec [AV.agg [sl d1.1.2.isEmpty (dropQ d1.1.2 d1.2.2.1 d1.2.2.2), sl d1.2.1.2.isEmpty d1.2.1.2], i6 1, i6 3] []) fun (d2 : LW × LW × Int × Int) =>
 oK (dgiveS.dec [AV.agg [sl d2.1.2.isEmpty (dropQ d2.1.2 d2.2.2.1 d2.2.2.2), sl d2.2.1.2.isEmpty d2.2.1.2], i6 2, i6 1] []) fun (d3 : LW × LW × Int × Int) =>
 oK (dgiveS.dec [AV.agg [sl d3.1.2.isEmpty (dropQ d3.1.2 d3.2.2.1 d3.2.2.2), sl d3.2.1.2.isEmpty d3.2.1.2], i6 2, i6 2] []) fun (d4 : LW × LW × Int × Int) =>
 oK (dgiveS.dec [AV.agg [sl d4.1.2.isEmpty (dropQ d4.1.2 d4.2.2.1 d4.2.2.2), sl d4.2.1.2.isEmpty d4.2.1.2], i6 2, i6 3] []) fun (d5 : LW × LW × Int × Int) =>
 oK (dgiveS.dec [AV.agg [sl d5.1.2.isEmpty (dropQ d5.1.2 d5.2.2.1 d5.2.2.2), sl d5.2.1.2.isEmpty d5.2.1.2], i6 3, i6 1] []) fun (d6 : LW × LW × Int × Int) =>
 oK (dgiveS.dec [AV.agg [sl d6.1.2.isEmpty (dropQ d6.1.2 d6.2.2.1 d6.2.2.2), sl d6.2.1.2.isEmpty d6.2.1.2], i6 3, i6 2] []) fun (d7 : LW × LW × Int × Int) =>
 oK (dgiveS.dec [AV.agg [sl d7.1.2.isEmpty (dropQ d7.1.2 d7.2.2.1 d7.2.2.2), sl d7.2.1.2.isEmpty d7.2.1.2], i6 3, i6 3] []) fun (d8 : LW × LW × Int × Int) =>
 oK (drunS.dec [AV.agg [sl d8.1.2.isEmpty (dropQ d8.1.2 d8.2.2.1 d8.2.2.2), sl d8.2.1.2.isEmpty d8.2.1.2], i6 now] []) fun (d9 : LW × LW × Int) =>
 bK ((mW (runQ (d9.1, d9.2.1) d9.2.2).2.2.1.2).all fun (y : AV) => decide (y.cells.length = 4))
 (bK (mW (runQ (d9.1, d9.2.1) d9.2.2).2.2.1.2).isEmpty (some (.inl (sf [(3, pt 48), (4, i6 now), (5, sl fx fi), (6, .slc true []), (7, i6 (IntKind.i64.wrap (i + 1)))] [(48, (bx [.slc (runQ (d9.1, d9.2.1) d9.2.2).1.1 (mW (runQ (d9.1, d9.2.1) d9.2.2).1.2), .slc (runQ (d9.1, d9.2.1) d9.2.2).2.1.1 (mW (runQ (d9.1, d9.2.1) d9.2.2).2.1.2)]))])))
 (bK (true && bytesFit Try.prog 25 (0 + (mW (runQ (d9.1, d9.2.1) d9.2.2).2.2.1.2).length) && true) (some (.inl (sf [(3, pt 48), (4, i6 now), (5, sl fx fi), (6, .sref 896 0 0 ([] ++ mW (runQ (d9.1, d9.2.1) d9.2.2).2.2.1.2).length), (7, i6 (IntKind.i64.wrap (i + 1)))] [(48, (bx [.slc (runQ (d9.1, d9.2.1) d9.2.2).1.1 (mW (runQ (d9.1, d9.2.1) d9.2.2).1.2), .slc (runQ (d9.1, d9.2.1) d9.2.2).2.1.1 (mW (runQ (d9.1, d9.2.1) d9.2.2).2.1.2)])), (896, { v := 0, k := .row, fz := false, sz := 4, es := [] ++ mW (runQ (d9.1, d9.2.1) d9.2.2).2.2.1.2 })]))) none))
 none)
 (some (.inr (.exit 0, (sf [(3, pt 48), (5, sl fx fi), (6, .slc true [])] [(48, (bx [sl D.1.1 D.1.2, sl D.2.1 D.2.2]))]))))
theorem gv_s0_w (D : Desk_T) (now : Int) (fx : Bool) (fi : List Wait_T) (i : Int) : gv_s0 D now fx fi i = gv_s0_r D now fx fi i := by kernel_rfl
def gvh1 (D : Desk_T) (now : Int) (fx : Bool) (fi : List Wait_T) (a : List Wait_T) (i : Int) : St := { fr := [(3, .ptr 48 0 0 0), (4, .int .i64 now), (5, .slc fx (fi.map (mkV true Wait_tfs))), (6, .sref 896 0 0 (a.map (mkV true Wait_tfs)).length), (7, .int .i64 i)], bs := [(48, boxB (Tu.mk Desk_tfs D)), (896, { v := 0, k := .row, fz := false, sz := 4, es := a.map (mkV true Wait_tfs) })], df := [] }
noncomputable def gv_s1 (D : Desk_T) (now : Int) (fx : Bool) (fi : List Wait_T) (a : List Wait_T) (i : Int) : Option (St ⊕ (Ex × St)) := stepK Try.prog cfg Gv3 LP0 8 0 (gvh1 D now fx fi a i)
noncomputable def gv_s1_r (D : Desk_T) (now : Int) (fx : Bool) (fi : List Wait_T) (a : List Wait_T) (i : Int) : Option (St ⊕ Ex × St) :=
 bK (decide (i < 12))
 (oK (dgiveS.dec [AV.agg [sl D.1.1 D.1.2, sl D.2.1 D.2.2], i6 1, i6 1] []) fun (d0 : LW × LW × Int × Int) =>
 oK (dgiveS.dec [AV.agg [sl d0.1.2.isEmpty (dropQ d0.1.2 d0.2.2.1 d0.2.2.2), sl d0.2.1.2.isEmpty d0.2.1.2], i6 1, i6 2] []) fun (d1 : LW × LW × Int × Int) =>
 oK (dgiveS.dec [AV.agg [sl d1.1.2.isEmpty (dropQ d1.1.2 d1.2.2.1 d1.2.2.2), sl d1.2.1.2.isEmpty d1.2.1.2], i6 1, i6 3] []) fun (d2 : LW × LW × Int × Int) =>
 oK (dgiveS.dec [AV.agg [sl d2.1.2.isEmpty (dropQ d2.1.2 d2.2.2.1 d2.2.2.2), sl d2.2.1.2.isEmpty d2.2.1.2], i6 2, i6 1] []) fun (d3 : LW × LW × Int × Int) =>
 oK (dgiveS.dec [AV.agg [sl d3.1.2.isEmpty (dropQ d3.1.2 d3.2.2.1 d3.2.2.2), sl d3.2.1.2.isEmpty d3.2.1.2], i6 2, i6 2] []) fun (d4 : LW × LW × Int × Int) =>
 oK (dgiveS.dec [AV.agg [sl d4.1.2.isEmpty (dropQ d4.1.2 d4.2.2.1 d4.2.2.2), sl d4.2.1.2.isEmpty d4.2.1.2], i6 2, i6 3] []) fun (d5 : LW × LW × Int × Int) =>
 oK (dgiveS.dec [AV.agg [sl d5.1.2.isEmpty (dropQ d5.1.2 d5.2.2.1 d5.2.2.2), sl d5.2.1.2.isEmpty d5.2.1.2], i6 3, i6 1] []) fun (d6 : LW × LW × Int × Int) =>
 oK (dgiveS.dec [AV.agg [sl d6.1.2.isEmpty (dropQ d6.1.2 d6.2.2.1 d6.2.2.2), sl d6.2.1.2.isEmpty d6.2.1.2], i6 3, i6 2] []) fun (d7 : LW × LW × Int × Int) =>
 oK (dgiveS.dec [AV.agg [sl d7.1.2.isEmpty (dropQ d7.1.2 d7.2.2.1 d7.2.2.2), sl d7.2.1.2.isEmpty d7.2.1.2], i6 3, i6 3] []) fun (d8 : LW × LW × Int × Int) =>
 oK (drunS.dec [AV.agg [sl d8.1.2.isEmpty (dropQ d8.1.2 d8.2.2.1 d8.2.2.2), sl d8.2.1.2.isEmpty d8.2.1.2], i6 now] []) fun (d9 : LW × LW × Int) =>
 bK ((mW (runQ (d9.1, d9.2.1) d9.2.2).2.2.1.2).all fun (y : AV) => decide (y.cells.length = 4))
 (bK (decide (0 + (mW a).length ≤ (mW a).length))
 (bK (mW (runQ (d9.1, d9.2.1) d9.2.2).2.2.1.2).isEmpty (some (.inl (sf [(3, pt 48), (4, i6 now), (5, sl fx fi), (6, .sref 896 0 0 (mW a).length), (7, i6 (IntKind.i64.wrap (i + 1)))] [(48, (bx [.slc (runQ (d9.1, d9.2.1) d9.2.2).1.1 (mW (runQ (d9.1, d9.2.1) d9.2.2).1.2), .slc (runQ (d9.1, d9.2.1) d9.2.2).2.1.1 (mW (runQ (d9.1, d9.2.1) d9.2.2).2.1.2)])), (896, (rw4 a))])))
 (bK (decide (0 = 0 ∧ (mW a).length = (mW a).length) && bytesFit Try.prog 25 ((mW a).length + (mW (runQ (d9.1, d9.2.1) d9.2.2).2.2.1.2).length)) (some (.inl (sf [(3, pt 48), (4, i6 now), (5, sl fx fi), (6, .sref 896 0 0 ((mW a).length + (mW (runQ (d9.1, d9.2.1) d9.2.2).2.2.1.2).length)), (7, i6 (IntKind.i64.wrap (i + 1)))] [(48, (bx [.slc (runQ (d9.1, d9.2.1) d9.2.2).1.1 (mW (runQ (d9.1, d9.2.1) d9.2.2).1.2), .slc (runQ (d9.1, d9.2.1) d9.2.2).2.1.1 (mW (runQ (d9.1, d9.2.1) d9.2.2).2.1.2)])), (896, { v := 0, k := .row, fz := false, sz := 4, es := List.take (mW a).length (mW a) ++ mW (runQ (d9.1, d9.2.1) d9.2.2).2.2.1.2 })]))) none))
 none)
 none)
 (some (.inr (.exit 0, (sf [(3, pt 48), (5, sl fx fi), (6, .sref 896 0 0 (mW a).length)] [(48, (bx [sl D.1.1 D.1.2, sl D.2.1 D.2.2])), (896, (rw4 a))]))))
theorem gv_s1_w (D : Desk_T) (now : Int) (fx : Bool) (fi : List Wait_T) (a : List Wait_T) (i : Int) : gv_s1 D now fx fi a i = gv_s1_r D now fx fi a i := by kernel_rfl
def fF (f : Int) (w : Wait_T) : Bool := decide (w.2.2.1 = f)
theorem drop_one : ∀ {W : List Wait_T} {v : Wait_T}, (W.map (·.1)).Nodup → v ∈ W → aheadNw v.1 v.2.2.1 W = false → (dropFw W v.1).length + 1 = W.length ∧ ∀ f : Int, (if v.2.2.1 = f then [v] else []) ++ (dropFw W v.1).filter (fF f) = W.filter (fF f)
 | [], v, _, h, _ => by cases h
 | x :: r, v, hn, hv, ha => by
  have hn' : x.1 ∉ r.map (·.1) ∧ (r.map (·.1)).Nodup := List.nodup_cons.1 hn
  by_cases hx : x.1 = v.1
  ·have hxv : x = v := by
    rcases List.mem_cons.1 hv with h | h
    ·exact h.symm
    ·exact absurd (by rw [hx]; exact List.mem_map_of_mem h) hn'.1
   subst hxv
   have e : dropFw (x :: r) x.1 = r := by
    unfold dropFw
    rw [List.filter_cons_of_neg (by simp)]
    refine List.filter_eq_self.2 fun w hw => ?_
    simp only [Bool.not_eq_true', decide_eq_false_iff_not]
    exact fun h => hn'.1 (by rw [← h]; exact List.mem_map_of_mem hw)
   rw [e]
   refine ⟨rfl, fun f => ?_⟩
   by_cases hf : x.2.2.1 = f
   ·rw [if_pos hf, List.filter_cons_of_pos (by simp [fF, hf])]; rfl
   ·rw [if_neg hf, List.filter_cons_of_neg (by simp [fF, hf])]; rfl
  ·have hv : v ∈ r := by
    rcases List.mem_cons.1 hv with h | h
    ·exact absurd (by rw [h]) hx
    ·exact h
   unfold aheadNw at ha
   by_cases hxf : x.2.2.1 = v.2.2.1
   ·rw [if_pos hxf] at ha; exact absurd (by simpa using ha) hx
   ·rw [if_neg hxf] at ha
    obtain ⟨i1, i2⟩ := drop_one hn'.2 hv ha
    have e : dropFw (x :: r) v.1 = x :: dropFw r v.1 := by unfold dropFw; rw [List.filter_cons_of_pos]; simp [hx]
    rw [e]
    refine ⟨by simp only [List.length_cons]; omega, fun f => ?_⟩
    by_cases hf : x.2.2.1 = f
    ·rw [List.filter_cons_of_pos (by simp [fF, hf]), List.filter_cons_of_pos (by simp [fF, hf]), ← i2 f, if_neg (by omega)]; rfl
    ·rw [List.filter_cons_of_neg (by simp [fF, hf]), List.filter_cons_of_neg (by simp [fF, hf]), i2 f]
theorem rnN_ord {now : Int} (hn : 0 ≤ now) : ∀ (n : Nat) (D : Desk_T) (a : List Wait_T), EInv 3 now D.1.2 D.2.2 → (rnN now n D a).2.length + (rnN now n D a).1.2.2.length = a.length + D.2.2.length ∧ (∀ f, (rnN now n D a).2.filter (fF f) ++ (rnN now n D a).1.2.2.filter (fF f) = a.filter (fF f) ++ D.2.2.filter (fF f)) ∧ (rnN now n D a).1.2.2.length ≤ D.2.2.length
 | 0, D, a, h => ⟨rfl, fun _ => rfl, Nat.le_refl _⟩
 | n + 1, D, a, h => by
  unfold rnN
  by_cases hc : posR D now < 0
  ·rw [if_pos hc]; exact ⟨rfl, fun _ => rfl, Nat.le_refl _⟩
  ·rw [if_neg hc]
   obtain ⟨p1, p2⟩ := pos_spec2 hc
   have h1 := h.lend hn (h.d.w _ p1) (h.fw _ p1) p2
   obtain ⟨d1, d2⟩ := drop_one h.o.2 p1 (may_cs p2).2
   generalize D.2.2.getD (posR D now).toNat (0, 0, 0, 0) = v at p1 p2 h1 d1 d2 ⊢
   obtain ⟨i1, i2, i3⟩ := rnN_ord hn n (nextD D now v) (a ++ [v]) h1
   have e : (nextD D now v).2.2 = dropFw D.2.2 v.1 := rfl
   rw [e] at i1 i2 i3
   refine ⟨by rw [i1, List.length_append, List.length_singleton]; omega, fun f => ?_, by omega⟩
   rw [i2 f, List.filter_append, ← d2 f, List.append_assoc]
   by_cases hf : v.2.2.1 = f <;> simp [fF, hf]
theorem rnN_less {now : Int} (hn : 0 ≤ now) (n : Nat) (D : Desk_T) (a : List Wait_T) (h : EInv 3 now D.1.2 D.2.2) (hL : D.1.2 = []) (hW : D.2.2 ≠ []) : (rnN now (n + 1) D a).1.2.2.length < D.2.2.length := by
 have hc : ¬ posR D now < 0 := by
  intro hc
  rcases firstN_ge (fun v => mayQd D.1.2 D.2.2 now v) D.2.2 0 (Int.le_refl _) with ⟨_, h2⟩ | ⟨k, hk, h1, _, _⟩
  ·obtain ⟨w, r, hw⟩ := List.exists_cons_of_ne_nil hW
   have := h2 w (by rw [hw]; exact List.mem_cons_self)
   rw [hL, hw] at this
   have h3 : (decide (csF [] now w.1 w.2.2.1 w.2.2.2 = []) && !aheadNw w.1 w.2.2.1 (w :: r)) = false := this
   unfold aheadNw at h3
   rw [if_pos rfl] at h3
   have h4 : csF [] now w.1 w.2.2.1 w.2.2.2 = [] := rfl
   rw [h4] at h3
   simp at h3
  ·have : posR D now = 0 + (k : Int) := h1
   omega
 unfold rnN
 rw [if_neg hc]
 obtain ⟨l1, _⟩ := next_len hc
 obtain ⟨p1, p2⟩ := pos_spec2 hc
 have h1 := h.lend hn (h.d.w _ p1) (h.fw _ p1) p2
 generalize D.2.2.getD (posR D now).toNat (0, 0, 0, 0) = v at p1 p2 h1 l1 ⊢
 have := (rnN_ord hn n (nextD D now v) (a ++ [v]) h1).2.2
 omega
def gvA9 (L : List Lease_T) : List Lease_T := dropQ (dropQ (dropQ (dropQ (dropQ (dropQ (dropQ (dropQ (dropQ L 1 1) 1 2) 1 3) 2 1) 2 2) 2 3) 3 1) 3 2) 3 3
theorem gv9_nil {now : Int} {L : List Lease_T} {W : List Wait_T} (h : EInv 3 now L W) : gvA9 L = [] := by
 rw [List.eq_nil_iff_forall_not_mem]
 intro x hx
 simp only [gvA9, dropQ, List.mem_filter, Bool.not_eq_true', Bool.and_eq_false_iff, decide_eq_false_iff_not] at hx
 obtain ⟨⟨⟨⟨⟨⟨⟨⟨⟨hm, k1⟩, k2⟩, k3⟩, k4⟩, k5⟩, k6⟩, k7⟩, k8⟩, k9⟩ := hx
 have ho := okE_iff.1 (h.d.a.inv.ok x hm)
 have hf := h.fl x hm
 have hc : x.1 = 1 ∨ x.1 = 2 ∨ x.1 = 3 := by omega
 have hg : x.2.1 = 1 ∨ x.2.1 = 2 ∨ x.2.1 = 3 := by omega
 rcases hc with hc | hc | hc <;> rcases hg with hg | hg | hg <;> simp [hc, hg] at k1 k2 k3 k4 k5 k6 k7 k8 k9
theorem gv9_E {now : Int} {L : List Lease_T} {W : List Wait_T} (h : EInv 3 now L W) : EInv 3 now (gvA9 L) W := ((((((((h.drop _ _).drop _ _).drop _ _).drop _ _).drop _ _).drop _ _).drop _ _).drop _ _).drop _ _
abbrev GvR : Type := (Bool × List Lease_T) × (Bool × List Wait_T) × (Bool × List Wait_T) × Bool × List P2_T
def gvX (D : Desk_T) (now : Int) : GvR := runQ ((true, gvA9 D.1.2), D.2) now
def gvN (now : Int) : Nat → Desk_T → List Wait_T → Desk_T × List Wait_T
 | 0, D, a => (D, a)
 | k + 1, D, a => gvN now k ((gvX D now).1, (gvX D now).2.1) (a ++ (gvX D now).2.2.1.2)
structure GInv (now : Int) (fi : List Wait_T) (i : Nat) (D : Desk_T) (a : List Wait_T) : Prop where
 e : EInv 3 now D.1.2 D.2.2
 len : D.1.2.length + D.2.2.length ≤ 25
 w : D.2.2.length ≤ 4 - i
 n : a.length + D.2.2.length = fi.length
 o : ∀ f, a.filter (fF f) ++ D.2.2.filter (fF f) = fi.filter (fF f)
theorem GInv.next {now : Int} (hn : 0 ≤ now) {fi : List Wait_T} {i : Nat} {D : Desk_T} {a : List Wait_T} (h : GInv now fi i D a) : GInv now fi (i + 1) ((gvX D now).1, (gvX D now).2.1) (a ++ (gvX D now).2.2.1.2) := by
 obtain ⟨he, hlen, hw, hc, ho⟩ := h
 have hE := gv9_E he
 have hP : EInv 3 now (pruD ((true, gvA9 D.1.2), D.2) now).1.2 (pruD ((true, gvA9 D.1.2), D.2) now).2.2 := hE.prune (Int.le_refl _)
 obtain ⟨r1, r2, r3⟩ := rnN_ord hn D.2.2.length (pruD ((true, gvA9 D.1.2), D.2) now) [] hP
 have e1 : (gvX D now).2.1.2 = (rnN now D.2.2.length (pruD ((true, gvA9 D.1.2), D.2) now) []).1.2.2 := rfl
 have e2 : (gvX D now).2.2.1.2 = (rnN now D.2.2.length (pruD ((true, gvA9 D.1.2), D.2) now) []).2 := rfl
 have e3 : (pruD ((true, gvA9 D.1.2), D.2) now).2.2 = D.2.2 := rfl
 have e4 : (pruD ((true, gvA9 D.1.2), D.2) now).1.2 = [] := by
  show pruneQ (gvA9 D.1.2) now = []
  rw [gv9_nil he]; rfl
 rw [e3] at r1 r2 r3
 have l1 := (run_inv (now' := now) hn (D := ((true, gvA9 D.1.2), D.2)) hE.d).2
 have l2 : (gvX D now).1.2.length + (gvX D now).2.1.2.length ≤ (gvA9 D.1.2).length + D.2.2.length := l1
 rw [gv9_nil he, List.length_nil] at l2
 refine ⟨run_E hn (Int.le_refl _) (D := ((true, gvA9 D.1.2), D.2)) hE, by show (gvX D now).1.2.length + (gvX D now).2.1.2.length ≤ 25; omega, ?_, ?_, fun f => ?_⟩
 ·show (gvX D now).2.1.2.length ≤ 4 - (i + 1)
  rw [e1]
  by_cases hz : D.2.2 = []
  ·rw [hz] at r3 ⊢
   simp only [List.length_nil] at r3 ⊢
   omega
  ·obtain ⟨m, hm⟩ := Nat.exists_eq_succ_of_ne_zero (fun h => hz (List.eq_nil_of_length_eq_zero h))
   have := rnN_less hn m (pruD ((true, gvA9 D.1.2), D.2) now) [] hP e4 (by rw [e3]; exact hz)
   rw [e3] at this
   rw [hm]
   show _ ≤ _
   have h5 : (rnN now (m + 1) (pruD ((true, gvA9 D.1.2), D.2) now) []).1.2.2.length < D.2.2.length := this
   show (rnN now (m + 1) (pruD ((true, gvA9 D.1.2), D.2) now) []).1.2.2.length ≤ _
   omega
 ·show (a ++ (gvX D now).2.2.1.2).length + (gvX D now).2.1.2.length = _
  rw [e1, e2, List.length_append]
  simp only [List.length_nil] at r1
  omega
 ·show (a ++ (gvX D now).2.2.1.2).filter (fF f) ++ (gvX D now).2.1.2.filter (fF f) = _
  rw [e1, e2, List.filter_append, List.append_assoc, r2 f, List.filter_nil, List.nil_append]
  exact ho f
def gvh (D : Desk_T) (now : Int) (fx : Bool) (fi : List Wait_T) (a : List Wait_T) (i : Int) : St := match a with
 | [] => gvh0 D now fx fi i
 | x :: r => gvh1 D now fx fi (x :: r) i
theorem gv_e (D : Desk_T) (now : Int) (fx : Bool) (fi : List Wait_T) (a : List Wait_T) (i : Nat) (hi : i < 12) (hn : 0 ≤ now ∧ now ≤ 1000000) (hl : D.1.2.length + D.2.2.length ≤ 25) (ha : a.length + (gvX D now).2.2.1.2.length ≤ 1000) : stepK Try.prog cfg Gv3 LP0 8 0 (gvh D now fx fi a i) = some (.inl (gvh ((gvX D now).1, (gvX D now).2.1) now fx fi (a ++ (gvX D now).2.2.1.2) ((i + 1 : Nat) : Int))) := by
 obtain ⟨⟨lx, L⟩, wx, W⟩ := D
 have hL : L.length ≤ 25 := by have h : L.length + W.length ≤ 25 := hl; omega
 have hW : W.length ≤ 25 := by have h : L.length + W.length ≤ 25 := hl; omega
 have ei : IntKind.i64.wrap ((i : Int) + 1) = ((i + 1 : Nat) : Int) := by rw [w64 (by omega) (by omega)]; omega
 have dl : ∀ {x : List Lease_T} (c f : Int), x.length ≤ 25 → (dropQ x c f).length ≤ 25 := fun c f h => Nat.le_trans (drop_len _ c f) h
 have sx : ∀ {x : List Lease_T}, x.length ≤ 25 → x.length ≤ 100000 := fun h => Nat.le_trans h (by decide)
 have sw : W.length ≤ 100000 := Nat.le_trans hW (by decide)
 have h1 : (dropQ L 1 1).length ≤ 25 := dl _ _ hL
 have h2 : (dropQ (dropQ L 1 1) 1 2).length ≤ 25 := dl _ _ h1
 have h3 : (dropQ (dropQ (dropQ L 1 1) 1 2) 1 3).length ≤ 25 := dl _ _ h2
 have h4 : (dropQ (dropQ (dropQ (dropQ L 1 1) 1 2) 1 3) 2 1).length ≤ 25 := dl _ _ h3
 have h5 : (dropQ (dropQ (dropQ (dropQ (dropQ L 1 1) 1 2) 1 3) 2 1) 2 2).length ≤ 25 := dl _ _ h4
 have h6 : (dropQ (dropQ (dropQ (dropQ (dropQ (dropQ L 1 1) 1 2) 1 3) 2 1) 2 2) 2 3).length ≤ 25 := dl _ _ h5
 have h7 : (dropQ (dropQ (dropQ (dropQ (dropQ (dropQ (dropQ L 1 1) 1 2) 1 3) 2 1) 2 2) 2 3) 3 1).length ≤ 25 := dl _ _ h6
 have h8 : (dropQ (dropQ (dropQ (dropQ (dropQ (dropQ (dropQ (dropQ L 1 1) 1 2) 1 3) 2 1) 2 2) 2 3) 3 1) 3 2).length ≤ 25 := dl _ _ h7
 have h9 : (dropQ (dropQ (dropQ (dropQ (dropQ (dropQ (dropQ (dropQ (dropQ L 1 1) 1 2) 1 3) 2 1) 2 2) 2 3) 3 1) 3 2) 3 3).length ≤ 25 := dl _ _ h8
 have eR : runQ (((dropQ (dropQ (dropQ (dropQ (dropQ (dropQ (dropQ (dropQ L 1 1) 1 2) 1 3) 2 1) 2 2) 2 3) 3 1) 3 2).isEmpty, dropQ (dropQ (dropQ (dropQ (dropQ (dropQ (dropQ (dropQ (dropQ L 1 1) 1 2) 1 3) 2 1) 2 2) 2 3) 3 1) 3 2) 3 3), (W.isEmpty, W)) now = gvX ((lx, L), wx, W) now := rfl
 cases a with
 | nil =>
  refine (gv_s0_w ((lx, L), wx, W) now fx fi i).trans ?_
  unfold gv_s0_r
  refine bK_tq (Q := (· = _)) (decide_eq_true (by omega)) ?_
  refine oK_fsq (Q := (· = _)) dgiveS ((lx, L), (wx, W), 1, 1) ⟨sx hL, sw⟩ ?_
  refine oK_fsq (Q := (· = _)) dgiveS ((L.isEmpty, dropQ L 1 1), (W.isEmpty, W), 1, 2) ⟨sx h1, sw⟩ ?_
  refine oK_fsq (Q := (· = _)) dgiveS (((dropQ L 1 1).isEmpty, dropQ (dropQ L 1 1) 1 2), (W.isEmpty, W), 1, 3) ⟨sx h2, sw⟩ ?_
  refine oK_fsq (Q := (· = _)) dgiveS (((dropQ (dropQ L 1 1) 1 2).isEmpty, dropQ (dropQ (dropQ L 1 1) 1 2) 1 3), (W.isEmpty, W), 2, 1) ⟨sx h3, sw⟩ ?_
  refine oK_fsq (Q := (· = _)) dgiveS (((dropQ (dropQ (dropQ L 1 1) 1 2) 1 3).isEmpty, dropQ (dropQ (dropQ (dropQ L 1 1) 1 2) 1 3) 2 1), (W.isEmpty, W), 2, 2) ⟨sx h4, sw⟩ ?_
  refine oK_fsq (Q := (· = _)) dgiveS (((dropQ (dropQ (dropQ (dropQ L 1 1) 1 2) 1 3) 2 1).isEmpty, dropQ (dropQ (dropQ (dropQ (dropQ L 1 1) 1 2) 1 3) 2 1) 2 2), (W.isEmpty, W), 2, 3) ⟨sx h5, sw⟩ ?_
  refine oK_fsq (Q := (· = _)) dgiveS (((dropQ (dropQ (dropQ (dropQ (dropQ L 1 1) 1 2) 1 3) 2 1) 2 2).isEmpty, dropQ (dropQ (dropQ (dropQ (dropQ (dropQ L 1 1) 1 2) 1 3) 2 1) 2 2) 2 3), (W.isEmpty, W), 3, 1) ⟨sx h6, sw⟩ ?_
  refine oK_fsq (Q := (· = _)) dgiveS (((dropQ (dropQ (dropQ (dropQ (dropQ (dropQ L 1 1) 1 2) 1 3) 2 1) 2 2) 2 3).isEmpty, dropQ (dropQ (dropQ (dropQ (dropQ (dropQ (dropQ L 1 1) 1 2) 1 3) 2 1) 2 2) 2 3) 3 1), (W.isEmpty, W), 3, 2) ⟨sx h7, sw⟩ ?_
  refine oK_fsq (Q := (· = _)) dgiveS (((dropQ (dropQ (dropQ (dropQ (dropQ (dropQ (dropQ L 1 1) 1 2) 1 3) 2 1) 2 2) 2 3) 3 1).isEmpty, dropQ (dropQ (dropQ (dropQ (dropQ (dropQ (dropQ (dropQ L 1 1) 1 2) 1 3) 2 1) 2 2) 2 3) 3 1) 3 2), (W.isEmpty, W), 3, 3) ⟨sx h8, sw⟩ ?_
  refine oK_fsq (Q := (· = _)) drunS (((dropQ (dropQ (dropQ (dropQ (dropQ (dropQ (dropQ (dropQ L 1 1) 1 2) 1 3) 2 1) 2 2) 2 3) 3 1) 3 2).isEmpty, dropQ (dropQ (dropQ (dropQ (dropQ (dropQ (dropQ (dropQ (dropQ L 1 1) 1 2) 1 3) 2 1) 2 2) 2 3) 3 1) 3 2) 3 3), (W.isEmpty, W), now) ⟨by show (dropQ (dropQ (dropQ (dropQ (dropQ (dropQ (dropQ (dropQ (dropQ L 1 1) 1 2) 1 3) 2 1) 2 2) 2 3) 3 1) 3 2) 3 3).length + W.length ≤ 50; omega, hn⟩ ?_
  dsimp only
  rw [eR, ei]
  generalize gvX ((lx, L), wx, W) now = x at ha ⊢
  obtain ⟨⟨xa, XL⟩, ⟨xw, XW⟩, ⟨xs, XS⟩, xc, XC⟩ := x
  dsimp only at ha ⊢
  refine bK_tq (Q := (· = _)) (by rw [List.all_eq_true]; intro y hy; obtain ⟨u, _, rfl⟩ := List.mem_map.1 hy; rfl) ?_
  cases XS with
  | nil => exact bK_tq (Q := (· = _)) rfl rfl
  | cons b r =>
   refine bK_fq (Q := (· = _)) rfl (bK_tq (Q := (· = _)) ?_ rfl)
   rw [cwfit (by simp only [List.length_map, List.length_nil, Nat.zero_add] at ha ⊢; omega)]; rfl
 | cons a0 ar =>
  refine (gv_s1_w ((lx, L), wx, W) now fx fi (a0 :: ar) i).trans ?_
  unfold gv_s1_r
  refine bK_tq (Q := (· = _)) (decide_eq_true (by omega)) ?_
  refine oK_fsq (Q := (· = _)) dgiveS ((lx, L), (wx, W), 1, 1) ⟨sx hL, sw⟩ ?_
  refine oK_fsq (Q := (· = _)) dgiveS ((L.isEmpty, dropQ L 1 1), (W.isEmpty, W), 1, 2) ⟨sx h1, sw⟩ ?_
  refine oK_fsq (Q := (· = _)) dgiveS (((dropQ L 1 1).isEmpty, dropQ (dropQ L 1 1) 1 2), (W.isEmpty, W), 1, 3) ⟨sx h2, sw⟩ ?_
  refine oK_fsq (Q := (· = _)) dgiveS (((dropQ (dropQ L 1 1) 1 2).isEmpty, dropQ (dropQ (dropQ L 1 1) 1 2) 1 3), (W.isEmpty, W), 2, 1) ⟨sx h3, sw⟩ ?_
  refine oK_fsq (Q := (· = _)) dgiveS (((dropQ (dropQ (dropQ L 1 1) 1 2) 1 3).isEmpty, dropQ (dropQ (dropQ (dropQ L 1 1) 1 2) 1 3) 2 1), (W.isEmpty, W), 2, 2) ⟨sx h4, sw⟩ ?_
  refine oK_fsq (Q := (· = _)) dgiveS (((dropQ (dropQ (dropQ (dropQ L 1 1) 1 2) 1 3) 2 1).isEmpty, dropQ (dropQ (dropQ (dropQ (dropQ L 1 1) 1 2) 1 3) 2 1) 2 2), (W.isEmpty, W), 2, 3) ⟨sx h5, sw⟩ ?_
  refine oK_fsq (Q := (· = _)) dgiveS (((dropQ (dropQ (dropQ (dropQ (dropQ L 1 1) 1 2) 1 3) 2 1) 2 2).isEmpty, dropQ (dropQ (dropQ (dropQ (dropQ (dropQ L 1 1) 1 2) 1 3) 2 1) 2 2) 2 3), (W.isEmpty, W), 3, 1) ⟨sx h6, sw⟩ ?_
  refine oK_fsq (Q := (· = _)) dgiveS (((dropQ (dropQ (dropQ (dropQ (dropQ (dropQ L 1 1) 1 2) 1 3) 2 1) 2 2) 2 3).isEmpty, dropQ (dropQ (dropQ (dropQ (dropQ (dropQ (dropQ L 1 1) 1 2) 1 3) 2 1) 2 2) 2 3) 3 1), (W.isEmpty, W), 3, 2) ⟨sx h7, sw⟩ ?_
  refine oK_fsq (Q := (· = _)) dgiveS (((dropQ (dropQ (dropQ (dropQ (dropQ (dropQ (dropQ L 1 1) 1 2) 1 3) 2 1) 2 2) 2 3) 3 1).isEmpty, dropQ (dropQ (dropQ (dropQ (dropQ (dropQ (dropQ (dropQ L 1 1) 1 2) 1 3) 2 1) 2 2) 2 3) 3 1) 3 2), (W.isEmpty, W), 3, 3) ⟨sx h8, sw⟩ ?_
  refine oK_fsq (Q := (· = _)) drunS (((dropQ (dropQ (dropQ (dropQ (dropQ (dropQ (dropQ (dropQ L 1 1) 1 2) 1 3) 2 1) 2 2) 2 3) 3 1) 3 2).isEmpty, dropQ (dropQ (dropQ (dropQ (dropQ (dropQ (dropQ (dropQ (dropQ L 1 1) 1 2) 1 3) 2 1) 2 2) 2 3) 3 1) 3 2) 3 3), (W.isEmpty, W), now) ⟨by show (dropQ (dropQ (dropQ (dropQ (dropQ (dropQ (dropQ (dropQ (dropQ L 1 1) 1 2) 1 3) 2 1) 2 2) 2 3) 3 1) 3 2) 3 3).length + W.length ≤ 50; omega, hn⟩ ?_
  dsimp only
  rw [eR, ei]
  generalize gvX ((lx, L), wx, W) now = x at ha ⊢
  obtain ⟨⟨xa, XL⟩, ⟨xw, XW⟩, ⟨xs, XS⟩, xc, XC⟩ := x
  dsimp only at ha ⊢
  refine bK_tq (Q := (· = _)) (by rw [List.all_eq_true]; intro y hy; obtain ⟨u, _, rfl⟩ := List.mem_map.1 hy; rfl) ?_
  refine bK_tq (Q := (· = _)) (by simp) ?_
  cases XS with
  | nil =>
   rw [List.append_nil]
   exact bK_tq (Q := (· = _)) rfl rfl
  | cons b r =>
   have e1 : List.take ((a0 :: ar).map (mkV true Wait_tfs)).length ((a0 :: ar).map (mkV true Wait_tfs)) ++ (b :: r).map (mkV true Wait_tfs) = ((a0 :: ar) ++ (b :: r)).map (mkV true Wait_tfs) := by rw [List.take_length, List.map_append]
   have e2 : ((a0 :: ar).map (mkV true Wait_tfs)).length + ((b :: r).map (mkV true Wait_tfs)).length = (((a0 :: ar) ++ (b :: r)).map (mkV true Wait_tfs)).length := by rw [List.map_append, List.length_append]
   refine bK_fq (Q := (· = _)) rfl (bK_tq (Q := (· = _)) ?_ ?_)
   ·rw [cwfit (by simp only [List.length_map] at ha ⊢; omega)]; simp
   ·rw [e1, e2]; rfl
def gvx (D : Desk_T) (fx : Bool) (fi : List Wait_T) (a : List Wait_T) : St := match a with
 | [] => { fr := [(3, .ptr 48 0 0 0), (5, .slc fx (fi.map (mkV true Wait_tfs))), (6, .slc true [])], bs := [(48, boxB (Tu.mk Desk_tfs D))], df := [] }
 | x :: r => { fr := [(3, .ptr 48 0 0 0), (5, .slc fx (fi.map (mkV true Wait_tfs))), (6, .sref 896 0 0 ((x :: r).map (mkV true Wait_tfs)).length)], bs := [(48, boxB (Tu.mk Desk_tfs D)), (896, { v := 0, k := .row, fz := false, sz := 4, es := (x :: r).map (mkV true Wait_tfs) })], df := [] }
theorem gl8 : (loopsOf 0 (codeOf Try.prog 8)).map (·.1) = [0, 2, 4, 6, 8] := by kernel_rfl
theorem go8 : OneLoops Try.prog 8 := by unfold OneLoops; rw [gl8]; decide
theorem ga80 : At 0 (codeOf Try.prog 8) 0 (.loop (bodyAt Try.prog 8 0)) := at_body go8 (by rw [gl8]; decide)
theorem gv_run (now : Int) (hn : 0 ≤ now ∧ now ≤ 1000000) (fx : Bool) (fi : List Wait_T) (hf : fi.length ≤ 4) : ∀ (j i : Nat) (D : Desk_T) (a : List Wait_T), i + j = 12 → GInv now fi i D a → ∀ (fu : Nat), j < fu → GInv now fi 12 (gvN now j D a).1 (gvN now j D a).2 ∧ Runs' Try.prog cfg Gv3 8 0 fu (gvh D now fx fi a i) (.exit 0, gvx (gvN now j D a).1 fx fi (gvN now j D a).2)
 | 0, i, D, a, hi, h, fu + 1, hlt => by
  have e : i = 12 := by omega
  subst e
  refine ⟨h, ?_⟩
  cases a with
  | nil =>
   refine Runs'.done (lp := LP0) LPok.none ga80 ((gv_s0_w D now fx fi (12 : Nat)).trans ?_)
   unfold gv_s0_r
   exact bK_neg (by exact decide_eq_false (by omega))
  | cons b r =>
   refine Runs'.done (lp := LP0) LPok.none ga80 ((gv_s1_w D now fx fi (b :: r) (12 : Nat)).trans ?_)
   unfold gv_s1_r
   exact bK_neg (by exact decide_eq_false (by omega))
 | j + 1, i, D, a, hi, h, fu + 1, hlt => by
  have h' := h.next hn.1
  have hx : a.length + (gvX D now).2.2.1.2.length ≤ fi.length := by
   have := h'.n
   rw [List.length_append] at this
   omega
  have hs := gv_e D now fx fi a i (by omega) hn h.len (by omega)
  obtain ⟨g1, g2⟩ := gv_run now hn fx fi hf j (i + 1) _ _ (by omega) h' fu (by omega)
  exact ⟨g1, Runs'.step (lp := LP0) LPok.none ga80 hs g2⟩
def gvHd (d : Desk_T × Int × (Bool × List Wait_T)) : St := gvh0 d.1 d.2.1 d.2.2.1 d.2.2.2 0
theorem gvHd_inj (d d' : Desk_T × Int × (Bool × List Wait_T)) (h : gvHd d = gvHd d') : d = d' := by
 obtain ⟨D, now, fx, fi⟩ := d
 obtain ⟨D', now', fx', fi'⟩ := d'
 simp only [gvHd, gvh0, boxB, St.mk.injEq, List.cons.injEq, Prod.mk.injEq, AV.slc.injEq, AV.int.injEq, Blk.mk.injEq, and_true, true_and] at h
 obtain ⟨⟨h1, h2, h3⟩, h4⟩ := h
 rw [h1, h2, map_inj (fs := Wait_tfs) rfl h3, mk_inj (fs := Desk_tfs) rfl h4]
def gvD (D : Desk_T) (now : Int) : Desk_T := (gvN now 12 D []).1
def gvS (D : Desk_T) (now : Int) : List Wait_T := (gvN now 12 D []).2
def gvPre (d : Desk_T × Int × (Bool × List Wait_T)) : Prop := (0 ≤ d.2.1 ∧ d.2.1 ≤ 1000000) ∧ GInv d.2.1 d.2.2.2 0 d.1 []
noncomputable def gvL : LP := LP.of gvHd gvPre fun d => .ite (noW (gvS d.1 d.2.1)) (.leaf (.exit 0, { fr := [(3, .ptr 48 0 0 0), (5, .slc d.2.2.1 (d.2.2.2.map (mkV true Wait_tfs))), (6, .slc true [])], bs := [(48, boxB (Tu.mk Desk_tfs (gvD d.1 d.2.1)))], df := [] })) (.leaf (.exit 0, { fr := [(3, .ptr 48 0 0 0), (5, .slc d.2.2.1 (d.2.2.2.map (mkV true Wait_tfs))), (6, .sref 896 0 0 ((gvS d.1 d.2.1).map (mkV true Wait_tfs)).length)], bs := [(48, boxB (Tu.mk Desk_tfs (gvD d.1 d.2.1))), (896, { v := 0, k := .row, fz := false, sz := 4, es := (gvS d.1 d.2.1).map (mkV true Wait_tfs) })], df := [] }))
noncomputable def gvP : LPs := LPs.add LP0 8 0 gvL
theorem gvP_spec (d : Desk_T × Int × (Bool × List Wait_T)) (h : gvPre d) : GInv d.2.1 d.2.2.2 12 (gvD d.1 d.2.1) (gvS d.1 d.2.1) ∧ Runs' Try.prog cfg Gv3 8 0 rounds (gvHd d) (.exit 0, gvx (gvD d.1 d.2.1) d.2.2.1 d.2.2.2 (gvS d.1 d.2.1)) := by
 obtain ⟨D, now, fx, fi⟩ := d
 obtain ⟨h1, h2⟩ := h
 exact gv_run now h1 fx fi (by have h3 : 0 + D.2.2.length = fi.length := h2.n; have h4 := h2.w; dsimp only at h4; omega) 12 0 D [] rfl h2 rounds (by simp only [rounds]; omega)
theorem gvP_ok : LPok Try.prog cfg Gv3 gvP 8 := LPok.addH LPok.none go8 (by
 rintro ⟨D, now, fx, fi⟩ h
 have hr := (gvP_spec _ h).2
 refine cast ?_ hr
 congr 1
 dsimp only
 cases gvS D now with
 | nil => rfl
 | cons a0 ar => rfl)
end Go.Proofs.Ytkanmigbbpppnaa
