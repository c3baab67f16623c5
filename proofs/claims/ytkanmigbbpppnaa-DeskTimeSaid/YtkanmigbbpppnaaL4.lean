/- A part of the proof: contracts of functions. -/
import Derived.Test.YtkanmigbbpppnaaK4
import Derived.Test.YtkanmigbbpppnaaAbAny

set_option linter.unusedVariables false
set_option linter.unusedSimpArgs false
set_option maxRecDepth 100000
namespace Go.Proofs.Ytkanmigbbpppnaa
open Go Go.Ab
theorem ask_len (L : List Lease_T) {W : List Wait_T} (hl : W.length ≤ 4) (now : Int) (w : Wait_T) : (askQ L W now w).1.2.length + (askQ L W now w).2.1.2.length ≤ L.length + W.length + 1 := by
 have e : askQ L W now w = if mayQd (pruneQ L now) W now w = true then ((false, letsL (pruneQ L now) now w), (W.isEmpty, letsW W w), true, (true, []), 0)
  else if (putQw W w).2 = false then ((L.isEmpty, pruneQ L now), (W.isEmpty, W), false, (true, []), 3)
  else ((L.isEmpty, pruneQ L now), (false, (putQw W w).1), false, ((csF (pruneQ L now) now w.1 w.2.2.1 w.2.2.2).isEmpty, csF (pruneQ L now) now w.1 w.2.2.1 w.2.2.2), 0) := rfl
 have hp := prune_len L now
 rw [e]
 split
 ·have h3 : (letsL (pruneQ L now) now w).length ≤ (pruneQ L now).length + 1 := granQ_len _ _
  have h4 : (letsW W w).length ≤ W.length := dropw_len W w.1
  show (letsL (pruneQ L now) now w).length + (letsW W w).length ≤ _
  omega
 ·split
  ·show (pruneQ L now).length + W.length ≤ _
   omega
  ·have p2 := (putQ_spec (w := w) hl).2.1
   show (pruneQ L now).length + (putQw W w).1.length ≤ _
   omega
structure TInv (now : Int) (w : Wait_T) (k : Nat) (D : Desk_T) (s t : Int) : Prop where
 s0 : 0 ≤ s
 st : s ≤ t
 t1 : t ≤ now + 59
 n1 : now ≤ t ∧ now ≤ 1000
 i : WInv (now + 60) s w D.1.2 D.2.2
 len : D.1.2.length + D.2.2.length ≤ 26 + k
def DTQ (lx : Bool) (l : List Row3b) (now : Int) (w : Wait_T) (i : Nat) (z : Option (St ⊕ (Ex × St))) : Prop := ∃ D' s' t', z = some (.inl (dth lx l D' now w t' ((i + 1 : Nat) : Int))) ∧ TInv now w (i + 1) D' s' t'
theorem dt_e (lx : Bool) (l : List Row3b) (hl : ∀ r ∈ l, Tu.wf Row3b_fs r) (D : Desk_T) (now : Int) (w : Wait_T) (s t : Int) (i : Nat) (hi : i < l.length) (hi2 : i < 10) (h : TInv now w i D s t) : DTQ lx l now w i (dt_s lx l D now w t i) := by
 rw [dt_s_w]
 unfold dt_s_r
 obtain ⟨hs0, hst, ht1, ⟨hn1, hn2⟩, hW, hlen⟩ := h
 have e2 : l.getD (i : Int).toNat (0, 0, 0) = l[i] := by rw [Int.toNat_natCast, getD_at hi]
 have at_ : ∀ {k : Row3b → Option (St ⊕ (Ex × St))}, DTQ lx l now w i (k l[i]) → DTQ lx l now w i (oK (elemAt true Row3b_fs (l.map (mkV true Row3b_fs)) i) k) := fun hk => oK_atq (fs := Row3b_fs) (0, 0, 0) (by omega) (by simpa using hi) (by rw [e2]; exact hk)
 have hw := hl _ (List.getElem_mem hi)
 have ei : IntKind.i64.wrap ((i : Int) + 1) = ((i + 1 : Nat) : Int) := by rw [w64 (by omega) (by omega)]; omega
 refine bK_tq (Q := DTQ lx l now w i) (by simp; omega) ?_
 refine at_ (at_ ?_)
 generalize l[i] = r at hw at_
 have h1 : (0 : Int) ≤ r.1 ∧ r.1 ≤ 255 := hw.1
 have h2 : (0 : Int) ≤ r.2.1 ∧ r.2.1 ≤ 255 := hw.2.1
 have h3 : (0 : Int) ≤ r.2.2 ∧ r.2.2 ≤ 255 := hw.2.2
 obtain ⟨c1, c2, c3⟩ := tm_lt r.1 3 h1 (by omega)
 obtain ⟨f1, f2, f3⟩ := tm_lt r.2.1 3 h2 (by omega)
 obtain ⟨m1, m2, m3⟩ := tm_lt r.2.2 2 h3 (by omega)
 have t1 := Int.tmod_nonneg 9 h3.1
 have t2 := Int.tmod_lt_of_pos r.2.2 (show (0 : Int) < 9 by omega)
 rw [c1, w64 (n := r.2.2.tmod 9) (by omega) (by omega), w64 (n := t + r.2.2.tmod 9) (by omega) (by omega), w64 (n := now + 60) (by omega) (by omega), w64 (n := now + 60 - 1) (by omega) (by omega), ei]
 generalize r.2.2.tmod 9 = e at t1 t2
 have hm : t ≤ minI (t + e) (now + 60 - 1) ∧ minI (t + e) (now + 60 - 1) ≤ now + 59 := by unfold minI; split <;> omega
 generalize minI (t + e) (now + 60 - 1) = t' at hm
 refine bK_iq (Q := DTQ lx l now w i) (fun k0 => ?_) (fun k0 => ?_)
 ·exact ⟨D, s, t', rfl, hs0, by omega, hm.2, ⟨by omega, hn2⟩, hW, by omega⟩
 ·refine at_ (at_ ?_)
  rw [f1, m1]
  generalize IntKind.i64.wrap (600 + (i : Int)) = q
  refine oK_fsq (Q := DTQ lx l now w i) daskS (D.1, D.2, t', (1 + r.1.tmod 3, q, 1 + r.2.1.tmod 3, 1 + r.2.2.tmod 2)) ⟨⟨by show D.1.2.length ≤ 100000; omega, by show D.2.2.length ≤ 100000; omega⟩, by show 0 ≤ t'; omega, by show t' ≤ 1000000; omega⟩ ?_
  have ha := ask_W (now' := t') (by omega) (by omega) hW (v := (1 + r.1.tmod 3, q, 1 + r.2.1.tmod 3, 1 + r.2.2.tmod 2)) ⟨⟨by show 1 ≤ 1 + r.1.tmod 3; omega, by show 1 + r.1.tmod 3 ≤ 3; omega⟩, ⟨by show 1 ≤ 1 + r.2.1.tmod 3; omega, by show 1 + r.2.1.tmod 3 ≤ 6; omega⟩, ⟨by show 1 ≤ 1 + r.2.2.tmod 2; omega, by show 1 + r.2.2.tmod 2 ≤ 2; omega⟩⟩ (by show 1 + r.2.1.tmod 3 ≤ 3; omega) k0
  have hle := ask_len D.1.2 hW.e.d.l t' (1 + r.1.tmod 3, q, 1 + r.2.1.tmod 3, 1 + r.2.2.tmod 2)
  exact ⟨((askQ D.1.2 D.2.2 t' (1 + r.1.tmod 3, q, 1 + r.2.1.tmod 3, 1 + r.2.2.tmod 2)).1, (askQ D.1.2 D.2.2 t' (1 + r.1.tmod 3, q, 1 + r.2.1.tmod 3, 1 + r.2.2.tmod 2)).2.1), t', t', rfl, by omega, Int.le_refl _, hm.2, ⟨by omega, hn2⟩, ha, Nat.le_trans hle (by omega)⟩
def dtx (D : Desk_T) (now : Int) (w : Wait_T) : St := { fr := [(11, .ptr 176 0 0 0), (12, .int .i64 now), (13, .ptr 208 0 0 0)], bs := [(176, boxB (Tu.mk Desk_tfs D)), (208, boxB (Tu.mk Wait_tfs w))], df := [] }
theorem gl4 : (loopsOf 0 (codeOf Try.prog 4)).map (·.1) = [0, 2] := by kernel_rfl
theorem go4 : OneLoops Try.prog 4 := by unfold OneLoops; rw [gl4]; decide
theorem ga40 : At 0 (codeOf Try.prog 4) 0 (.loop (bodyAt Try.prog 4 0)) := at_body go4 (by rw [gl4]; decide)
theorem ga42 : At 0 (codeOf Try.prog 4) 2 (.loop (bodyAt Try.prog 4 2)) := at_body go4 (by rw [gl4]; decide)
theorem dt_run (lx : Bool) (l : List Row3b) (hl : ∀ r ∈ l, Tu.wf Row3b_fs r) (hl2 : l.length ≤ 10) (now : Int) (w : Wait_T) : ∀ (j i : Nat) (D : Desk_T) (s t : Int), i + j = l.length → TInv now w i D s t → ∀ (fu : Nat), j < fu → ∃ y : Desk_T × Int × Int, TInv now w 10 y.1 y.2.1 y.2.2 ∧ Runs' Try.prog cfg Lt4 4 0 fu (dth lx l D now w t i) (.exit 0, dtx y.1 now w)
 | 0, i, D, s, t, hi, h, fu + 1, hf => by
  refine ⟨(D, s, t), ⟨h.s0, h.st, h.t1, h.n1, h.i, by have := h.len; show D.1.2.length + D.2.2.length ≤ 26 + 10; omega⟩, Runs'.done (lp := LP0) LPok.none ga40 ((dt_s_w lx l D now w t i).trans ?_)⟩
  unfold dt_s_r
  exact bK_neg (by simp; omega)
 | j + 1, i, D, s, t, hi, h, fu + 1, hf => by
  obtain ⟨D', s', t', hs, ha⟩ := dt_e lx l hl D now w s t i (by omega) (by omega) h
  obtain ⟨y, hy, hr⟩ := dt_run lx l hl hl2 now w j (i + 1) D' s' t' (by omega) ha fu (by omega)
  exact ⟨y, hy, Runs'.step (lp := LP0) LPok.none ga40 hs hr⟩
abbrev DtD : Type := (Bool × List Row3b) × Desk_T × Int × Wait_T
def dtHd (d : DtD) : St := dth d.1.1 d.1.2 d.2.1 d.2.2.1 d.2.2.2 d.2.2.1 0
def dtPre (d : DtD) : Prop := (∀ r ∈ d.1.2, Tu.wf Row3b_fs r) ∧ d.1.2.length ≤ 10 ∧ TInv d.2.2.1 d.2.2.2 0 d.2.1 d.2.2.1 d.2.2.1
theorem dt_ex (d : DtD) (h : dtPre d) : ∃ y : Desk_T, (∃ s t, TInv d.2.2.1 d.2.2.2 10 y s t) ∧ Runs' Try.prog cfg Lt4 4 0 rounds (dtHd d) (.exit 0, dtx y d.2.2.1 d.2.2.2) := by
 obtain ⟨⟨lx, l⟩, D, now, w⟩ := d
 obtain ⟨h1, h2, h3⟩ := h
 obtain ⟨y, hy, hr⟩ := dt_run lx l h1 h2 now w l.length 0 D now now (by omega) h3 rounds (by have h2 : l.length ≤ 10 := h2; simp only [rounds]; omega)
 exact ⟨y.1, ⟨_, _, hy⟩, hr⟩
noncomputable def dtR (d : DtD) : Desk_T := open Classical in if h : dtPre d then Classical.choose (dt_ex d h) else d.2.1
theorem dtR_spec (d : DtD) (h : dtPre d) : (∃ s t, TInv d.2.2.1 d.2.2.2 10 (dtR d) s t) ∧ Runs' Try.prog cfg Lt4 4 0 rounds (dtHd d) (.exit 0, dtx (dtR d) d.2.2.1 d.2.2.2) := by
 unfold dtR
 rw [dif_pos h]
 exact Classical.choose_spec (dt_ex d h)
noncomputable def dtL : LP := LP.of (D := DtD) dtHd dtPre fun d => .leaf (.exit 0, dtx (dtR d) d.2.2.1 d.2.2.2)
noncomputable def dtP : LPs := LPs.add LP0 4 0 dtL
theorem dtP_ok : LPok Try.prog cfg Lt4 dtP 4 := LPok.addH LPok.none go4 fun d h => (dtR_spec d h).2
theorem dtHd_inj (d d' : DtD) (h : dtHd d = dtHd d') : d = d' := by
 obtain ⟨⟨lx, l⟩, D, now, w⟩ := d
 obtain ⟨⟨lx', l'⟩, D', now', w'⟩ := d'
 simp only [dtHd, dth, boxB, St.mk.injEq, List.cons.injEq, Prod.mk.injEq, AV.slc.injEq, AV.int.injEq, Blk.mk.injEq, and_true, true_and] at h
 obtain ⟨⟨⟨h1, h2⟩, h5, _⟩, h7, h8⟩ := h
 rw [h1, map_inj (fs := Row3b_fs) rfl h2, h5, mk_inj (fs := Desk_tfs) rfl h7, mk_inj (fs := Wait_tfs) rfl h8]

end Go.Proofs.Ytkanmigbbpppnaa
