/- A part of the proof: contracts of functions. -/
import Derived.Test.YtbifdenekkijfaaN
import Derived.Test.YtbifdenekkijfaaAbAny

set_option linter.unusedVariables false
set_option linter.unusedSimpArgs false
set_option maxRecDepth 100000
namespace Go.Proofs.Ytbifdenekkijfaa
open Go Go.Ab
abbrev Row4 : Type := Int × Int × Int × Int
abbrev Row4_fs : List Lf := [.fi .u8, .fi .u8, .fi .u8, .fi .u8]
def aih (lx : Bool) (l : List Row4) (xx : Bool) (x : List Lease_T) (now i k wr al n : Int) : St := { fr := [(0, .slc lx (l.map (mkV true Row4_fs))), (3, .slc xx (x.map (mkV true Lease_tfs))), (4, .int .i64 now), (5, .int .i64 i), (9, .int .i64 k), (10, .int .i64 wr), (11, .int .i64 al), (12, .int .i64 n)], bs := [], df := [] }
noncomputable def ai_s (lx : Bool) (l : List Row4) (xx : Bool) (x : List Lease_T) (now i k wr al n : Int) : Option (St ⊕ (Ex × St)) := stepK Try.prog cfg N5 LP0 4 5 (aih lx l xx x now i k wr al n)
noncomputable def ai_s_r (lx : Bool) (l : List Row4) (xx : Bool) (x : List Lease_T) (now : Int) (i : Int) (k : Int) (wr : Int) (al : Int) (n : Int) : Option (St ⊕ Ex × St) :=
  bK (decide (n ≤ 3))
  (oK (holdsS.dec [AV.slc xx (List.map (mkV true Lease_tfs) x), AV.int IntKind.i64 now, AV.int IntKind.i64 n, AV.int IntKind.i64 k] []) fun (d0 : (Bool × List (Int × Int × Int × Int)) × Int × Int × Int) =>
    bK (!decide (holdQ d0.fst.snd d0.snd.fst d0.snd.snd.fst d0.snd.snd.snd = 0)) (bK (decide (holdQ d0.fst.snd d0.snd.fst d0.snd.snd.fst d0.snd.snd.snd = 2)) (some (Sum.inl { fr := [(0, AV.slc lx (List.map (mkV true [Lf.fi IntKind.u8, Lf.fi IntKind.u8, Lf.fi IntKind.u8, Lf.fi IntKind.u8]) l)), (3, AV.slc xx (List.map (mkV true Lease_tfs) x)), (4, AV.int IntKind.i64 now), (5, AV.int IntKind.i64 i), (9, AV.int IntKind.i64 k), (10, AV.int IntKind.i64 (IntKind.i64.wrap (wr + 1))), (11, AV.int IntKind.i64 (IntKind.i64.wrap (al + 1))), (12, AV.int IntKind.i64 (IntKind.i64.wrap (n + 1)))], bs := [], df := [] })) (some (Sum.inl { fr := [(0, AV.slc lx (List.map (mkV true [Lf.fi IntKind.u8, Lf.fi IntKind.u8, Lf.fi IntKind.u8, Lf.fi IntKind.u8]) l)), (3, AV.slc xx (List.map (mkV true Lease_tfs) x)), (4, AV.int IntKind.i64 now), (5, AV.int IntKind.i64 i), (9, AV.int IntKind.i64 k), (10, AV.int IntKind.i64 wr), (11, AV.int IntKind.i64 (IntKind.i64.wrap (al + 1))), (12, AV.int IntKind.i64 (IntKind.i64.wrap (n + 1)))], bs := [], df := [] })))
      (bK (decide (holdQ d0.fst.snd d0.snd.fst d0.snd.snd.fst d0.snd.snd.snd = 2)) (some (Sum.inl { fr := [(0, AV.slc lx (List.map (mkV true [Lf.fi IntKind.u8, Lf.fi IntKind.u8, Lf.fi IntKind.u8, Lf.fi IntKind.u8]) l)), (3, AV.slc xx (List.map (mkV true Lease_tfs) x)), (4, AV.int IntKind.i64 now), (5, AV.int IntKind.i64 i), (9, AV.int IntKind.i64 k), (10, AV.int IntKind.i64 (IntKind.i64.wrap (wr + 1))), (11, AV.int IntKind.i64 al), (12, AV.int IntKind.i64 (IntKind.i64.wrap (n + 1)))], bs := [], df := [] })) (some (Sum.inl { fr := [(0, AV.slc lx (List.map (mkV true [Lf.fi IntKind.u8, Lf.fi IntKind.u8, Lf.fi IntKind.u8, Lf.fi IntKind.u8]) l)), (3, AV.slc xx (List.map (mkV true Lease_tfs) x)), (4, AV.int IntKind.i64 now), (5, AV.int IntKind.i64 i), (9, AV.int IntKind.i64 k), (10, AV.int IntKind.i64 wr), (11, AV.int IntKind.i64 al), (12, AV.int IntKind.i64 (IntKind.i64.wrap (n + 1)))], bs := [], df := [] }))))
  (some (Sum.inr (Ex.exit 5, { fr := [(0, AV.slc lx (List.map (mkV true [Lf.fi IntKind.u8, Lf.fi IntKind.u8, Lf.fi IntKind.u8, Lf.fi IntKind.u8]) l)), (3, AV.slc xx (List.map (mkV true Lease_tfs) x)), (4, AV.int IntKind.i64 now), (5, AV.int IntKind.i64 i), (9, AV.int IntKind.i64 k), (10, AV.int IntKind.i64 wr), (11, AV.int IntKind.i64 al)], bs := [], df := [] })))
theorem ai_s_w (lx : Bool) (l : List Row4) (xx : Bool) (x : List Lease_T) (now : Int) (i : Int) (k : Int) (wr : Int) (al : Int) (n : Int) : ai_s lx l xx x now i k wr al n = ai_s_r lx l xx x now i k wr al n := by kernel_rfl

def aoh (lx : Bool) (l : List Row4) (xx : Bool) (x : List Lease_T) (now i : Int) : St := { fr := [(0, .slc lx (l.map (mkV true Row4_fs))), (3, .slc xx (x.map (mkV true Lease_tfs))), (4, .int .i64 now), (5, .int .i64 i)], bs := [], df := [] }
def cntW (x : List Lease_T) (now k : Int) : Nat → Int → Int
  | 0, _ => 0
  | j + 1, n => (if holdQ x now n k = 2 then 1 else 0) + cntW x now k j (n + 1)
def cntA (x : List Lease_T) (now k : Int) : Nat → Int → Int
  | 0, _ => 0
  | j + 1, n => (if holdQ x now n k = 0 then 0 else 1) + cntA x now k j (n + 1)
theorem gl4 : (loopsOf 0 (codeOf Try.prog 4)).map (·.1) = [0, 3, 5] := by kernel_rfl
theorem go4 : OneLoops Try.prog 4 := by unfold OneLoops; rw [gl4]; decide
theorem ga40 : At 0 (codeOf Try.prog 4) 0 (.loop (bodyAt Try.prog 4 0)) := at_body go4 (by rw [gl4]; decide)
theorem ga45 : At 0 (codeOf Try.prog 4) 5 (.loop (bodyAt Try.prog 4 5)) := at_body go4 (by rw [gl4]; decide)
theorem ai_run (lx : Bool) (l : List Row4) (xx : Bool) (x : List Lease_T) (now i k : Int) (hx : x.length ≤ 1000) : ∀ (j : Nat) (wr al n : Int), 1 ≤ n → n + j = 4 → 0 ≤ wr → wr + j ≤ 100 → 0 ≤ al → al + j ≤ 100 → ∀ (fu : Nat), j < fu → Runs' Try.prog cfg N5 4 5 fu (aih lx l xx x now i k wr al n) (.exit 5, { fr := [(0, .slc lx (l.map (mkV true Row4_fs))), (3, .slc xx (x.map (mkV true Lease_tfs))), (4, .int .i64 now), (5, .int .i64 i), (9, .int .i64 k), (10, .int .i64 (wr + cntW x now k j n)), (11, .int .i64 (al + cntA x now k j n))], bs := [], df := [] })
  | 0, wr, al, n, h1, hn, a1, a2, a3, a4, fu + 1, hf => by
    refine Runs'.done (lp := LP0) LPok.none ga45 ((ai_s_w lx l xx x now i k wr al n).trans ?_)
    unfold ai_s_r
    rw [bK_neg (decide_eq_false (by omega)), cntW, cntA, Int.add_zero, Int.add_zero]
  | j + 1, wr, al, n, h1, hn, a1, a2, a3, a4, fu + 1, hf => by
    have e1 : IntKind.i64.wrap (n + 1) = n + 1 := w64 (by omega) (by omega)
    have e2 : IntKind.i64.wrap (wr + 1) = wr + 1 := w64 (by omega) (by omega)
    have e3 : IntKind.i64.wrap (al + 1) = al + 1 := w64 (by omega) (by omega)
    have hs : ai_s lx l xx x now i k wr al n = some (.inl (aih lx l xx x now i k (wr + if holdQ x now n k = 2 then 1 else 0) (al + if holdQ x now n k = 0 then 0 else 1) (n + 1))) := by
      refine (ai_s_w lx l xx x now i k wr al n).trans ?_
      unfold ai_s_r
      rw [bK_pos (decide_eq_true (by omega)), e1, e2, e3]
      refine oK_fsq (Q := fun z => z = _) holdsS ((xx, x), now, n, k) (by show x.length ≤ 100000; omega) ?_
      dsimp only
      generalize holdQ x now n k = a
      refine bK_nq (Q := fun z => z = _) (fun c1 => ?_) (fun c1 => ?_)
      · refine bK_iq (Q := fun z => z = _) (fun c2 => ?_) (fun c2 => ?_)
        · rw [if_pos c2, if_neg c1]; rfl
        · rw [if_neg c2, if_neg c1, Int.add_zero]; rfl
      · rw [bK_neg (decide_eq_false (by omega)), if_neg (by omega), if_pos c1, Int.add_zero, Int.add_zero]; rfl
    have := ai_run lx l xx x now i k hx j (wr + if holdQ x now n k = 2 then 1 else 0) (al + if holdQ x now n k = 0 then 0 else 1) (n + 1) (by omega) (by omega) (by split <;> omega) (by split <;> omega) (by split <;> omega) (by split <;> omega) fu (by omega)
    rw [Int.add_assoc, Int.add_assoc] at this
    exact Runs'.step (lp := LP0) LPok.none ga45 hs this
abbrev AiD : Type := (Bool × List Row4) × (Bool × List Lease_T) × Int × Int × Int
def aiHd (d : AiD) : St := aih d.1.1 d.1.2 d.2.1.1 d.2.1.2 d.2.2.1 d.2.2.2.1 d.2.2.2.2 0 0 1
theorem aiHd_inj (d d' : AiD) (h : aiHd d = aiHd d') : d = d' := by
  obtain ⟨⟨lx, l⟩, ⟨xx, x⟩, now, i, k⟩ := d
  obtain ⟨⟨lx', l'⟩, ⟨xx', x'⟩, now', i', k'⟩ := d'
  simp only [aiHd, aih, St.mk.injEq, List.cons.injEq, Prod.mk.injEq, AV.slc.injEq, AV.int.injEq, and_true, true_and] at h
  obtain ⟨⟨h1, h2⟩, ⟨h3, h4⟩, h5, h6, h7⟩ := h
  rw [h1, map_inj (fs := Row4_fs) rfl h2, h3, map_inj (fs := Lease_tfs) rfl h4, h5, h6, h7]
/-- How many hold it to write, how many at all. -/
def wrQ (x : List Lease_T) (now k : Int) : Int := cntW x now k 3 1
def alQ (x : List Lease_T) (now k : Int) : Int := cntA x now k 3 1
noncomputable def aiL : LP := LP.of aiHd (fun d => d.2.1.2.length ≤ 1000) fun d => .leaf (.exit 5, { fr := [(0, .slc d.1.1 (d.1.2.map (mkV true Row4_fs))), (3, .slc d.2.1.1 (d.2.1.2.map (mkV true Lease_tfs))), (4, .int .i64 d.2.2.1), (5, .int .i64 d.2.2.2.1), (9, .int .i64 d.2.2.2.2), (10, .int .i64 (wrQ d.2.1.2 d.2.2.1 d.2.2.2.2)), (11, .int .i64 (alQ d.2.1.2 d.2.2.1 d.2.2.2.2))], bs := [], df := [] })
noncomputable def aiP : LPs := LPs.add LP0 4 5 aiL
theorem aiP_ok : LPok Try.prog cfg N5 aiP 4 := LPok.addH LPok.none go4 (by
  rintro ⟨⟨lx, l⟩, ⟨xx, x⟩, now, i, k⟩ h
  have := ai_run lx l xx x now i k h 3 0 0 1 (by omega) (by omega) (by omega) (by omega) (by omega) (by omega) rounds (by simp only [rounds]; omega)
  rw [Int.zero_add, Int.zero_add] at this
  exact this)
structure AInv (now : Int) (x : List Lease_T) : Prop where
  inv : LInv x
  live : ∀ w ∈ x, now < w.2.2.2
  alone : ∀ w ∈ x, ∀ v ∈ x, w.2.1 = v.2.1 → w.2.2.1 = 2 → w.1 = v.1
theorem hold_ne {x : List Lease_T} (h : Srt x) {now c f : Int} (hn : holdQ x now c f ≠ 0) : ∃ w ∈ x, keyE w c f ∧ now < w.2.2.2 ∧ holdQ x now c f = w.2.2.1 := by
  by_cases hx : ∃ w ∈ x, keyE w c f
  · obtain ⟨w, hw, hk⟩ := hx
    have e := (hold_mem h hw hk now).2.2
    rw [e] at hn
    unfold valF at hn e
    by_cases hu : w.2.2.2 ≤ now
    · rw [if_pos hu] at hn; exact absurd rfl hn
    · rw [if_neg hu] at e
      exact ⟨w, hw, hk, by omega, e⟩
  · exact absurd (hold_none (fun w hw hk => hx ⟨w, hw, hk⟩) now).2 hn
theorem AInv.two {now : Int} {x : List Lease_T} (h : AInv now x) {a b k : Int} (hab : a ≠ b) (h2 : holdQ x now a k = 2) : holdQ x now b k = 0 := by
  refine Classical.byContradiction fun hn => ?_
  obtain ⟨w, hw, w1, w2, w3⟩ := hold_ne h.inv.srt (show holdQ x now a k ≠ 0 by omega)
  obtain ⟨v, hv, v1, v2, v3⟩ := hold_ne h.inv.srt hn
  have := h.alone w hw v hv (w1.2.trans v1.2.symm) (by omega)
  exact hab (w1.1.symm.trans (this.trans v1.1))
theorem AInv.cnt {now : Int} {x : List Lease_T} (h : AInv now x) (k : Int) : ¬ (0 < wrQ x now k ∧ 1 < alQ x now k) := by
  have a1 := h.two (a := 1) (b := 2) (k := k) (by omega)
  have a2 := h.two (a := 1) (b := 3) (k := k) (by omega)
  have a3 := h.two (a := 2) (b := 1) (k := k) (by omega)
  have a4 := h.two (a := 2) (b := 3) (k := k) (by omega)
  have a5 := h.two (a := 3) (b := 1) (k := k) (by omega)
  have a6 := h.two (a := 3) (b := 2) (k := k) (by omega)
  show ¬ (0 < cntW x now k 3 1 ∧ 1 < cntA x now k 3 1)
  simp only [cntW, cntA, show (1 : Int) + 1 = 2 from rfl, show (2 : Int) + 1 = 3 from rfl]
  generalize holdQ x now 1 k = p at *
  generalize holdQ x now 2 k = q at *
  generalize holdQ x now 3 k = r at *
  repeat' split
  all_goals omega
def amh (lx : Bool) (l : List Row4) (xx : Bool) (x : List Lease_T) (now i k : Int) : St := { fr := [(0, .slc lx (l.map (mkV true Row4_fs))), (3, .slc xx (x.map (mkV true Lease_tfs))), (4, .int .i64 now), (5, .int .i64 i), (9, .int .i64 k)], bs := [], df := [] }
noncomputable def am_s (lx : Bool) (l : List Row4) (xx : Bool) (x : List Lease_T) (now i k : Int) : Option (St ⊕ (Ex × St)) := stepK Try.prog cfg N5 aiP 4 3 (amh lx l xx x now i k)
noncomputable def am_s_r (lx : Bool) (l : List Row4) (xx : Bool) (x : List Lease_T) (now : Int) (i : Int) (k : Int) : Option (St ⊕ Ex × St) :=
  bK (decide (k ≤ 2))
  (oK (aiL.dec { fr := [(0, AV.slc lx (List.map (mkV true [Lf.fi IntKind.u8, Lf.fi IntKind.u8, Lf.fi IntKind.u8, Lf.fi IntKind.u8]) l)), (3, AV.slc xx (List.map (mkV true Lease_tfs) x)), (4, AV.int IntKind.i64 now), (5, AV.int IntKind.i64 i), (9, AV.int IntKind.i64 k), (10, AV.int IntKind.i64 0), (11, AV.int IntKind.i64 0), (12, AV.int IntKind.i64 1)], bs := [], df := [] }) fun (d0 : (Bool × List (Int × Int × Int × Int)) × (Bool × List (Int × Int × Int × Int)) × Int × Int × Int) =>
    bK (decide (0 < wrQ d0.snd.fst.snd d0.snd.snd.fst d0.snd.snd.snd.snd)) (bK (decide (1 < alQ d0.snd.fst.snd d0.snd.snd.fst d0.snd.snd.snd.snd)) (some (Sum.inr (Ex.ret, { fr := [(0, AV.slc d0.fst.fst (List.map (mkV true [Lf.fi IntKind.u8, Lf.fi IntKind.u8, Lf.fi IntKind.u8, Lf.fi IntKind.u8]) d0.fst.snd)), (2, AV.bool false), (3, AV.slc d0.snd.fst.fst (List.map (mkV true Lease_tfs) d0.snd.fst.snd)), (4, AV.int IntKind.i64 d0.snd.snd.fst), (5, AV.int IntKind.i64 d0.snd.snd.snd.fst)], bs := [], df := [] }))) (some (Sum.inl { fr := [(0, AV.slc d0.fst.fst (List.map (mkV true [Lf.fi IntKind.u8, Lf.fi IntKind.u8, Lf.fi IntKind.u8, Lf.fi IntKind.u8]) d0.fst.snd)), (3, AV.slc d0.snd.fst.fst (List.map (mkV true Lease_tfs) d0.snd.fst.snd)), (4, AV.int IntKind.i64 d0.snd.snd.fst), (5, AV.int IntKind.i64 d0.snd.snd.snd.fst), (9, AV.int IntKind.i64 (IntKind.i64.wrap (d0.snd.snd.snd.snd + 1)))], bs := [], df := [] }))) (some (Sum.inl { fr := [(0, AV.slc d0.fst.fst (List.map (mkV true [Lf.fi IntKind.u8, Lf.fi IntKind.u8, Lf.fi IntKind.u8, Lf.fi IntKind.u8]) d0.fst.snd)), (3, AV.slc d0.snd.fst.fst (List.map (mkV true Lease_tfs) d0.snd.fst.snd)), (4, AV.int IntKind.i64 d0.snd.snd.fst), (5, AV.int IntKind.i64 d0.snd.snd.snd.fst), (9, AV.int IntKind.i64 (IntKind.i64.wrap (d0.snd.snd.snd.snd + 1)))], bs := [], df := [] })))
  (some (Sum.inr (Ex.exit 3, { fr := [(0, AV.slc lx (List.map (mkV true [Lf.fi IntKind.u8, Lf.fi IntKind.u8, Lf.fi IntKind.u8, Lf.fi IntKind.u8]) l)), (3, AV.slc xx (List.map (mkV true Lease_tfs) x)), (4, AV.int IntKind.i64 now), (5, AV.int IntKind.i64 i)], bs := [], df := [] })))
theorem am_s_w (lx : Bool) (l : List Row4) (xx : Bool) (x : List Lease_T) (now : Int) (i : Int) (k : Int) : am_s lx l xx x now i k = am_s_r lx l xx x now i k := by kernel_rfl

theorem ga43 : At 0 (codeOf Try.prog 4) 3 (.loop (bodyAt Try.prog 4 3)) := at_body go4 (by rw [gl4]; decide)
theorem am_run (lx : Bool) (l : List Row4) (xx : Bool) (x : List Lease_T) (now i : Int) (h : AInv now x) (hx : x.length ≤ 1000) : ∀ (j : Nat) (k : Int), 1 ≤ k → k + j = 3 → ∀ (fu : Nat), j < fu → Runs' Try.prog cfg N5 4 3 fu (amh lx l xx x now i k) (.exit 3, { fr := [(0, .slc lx (l.map (mkV true Row4_fs))), (3, .slc xx (x.map (mkV true Lease_tfs))), (4, .int .i64 now), (5, .int .i64 i)], bs := [], df := [] })
  | 0, k, h1, hk, fu + 1, hf => by
    refine Runs'.done (lp := aiP) aiP_ok ga43 ((am_s_w lx l xx x now i k).trans ?_)
    unfold am_s_r
    exact bK_neg (decide_eq_false (by omega))
  | j + 1, k, h1, hk, fu + 1, hf => by
    refine Runs'.step (lp := aiP) aiP_ok ga43 ((am_s_w lx l xx x now i k).trans ?_) (am_run lx l xx x now i h hx j (k + 1) (by omega) (by omega) fu (by omega))
    unfold am_s_r
    rw [bK_pos (decide_eq_true (by omega))]
    refine oK_lpq (Q := fun z => z = _) aiHd_inj ((lx, l), (xx, x), now, i, k) hx ?_
    dsimp only
    rw [w64 (n := k + 1) (by omega) (by omega)]
    have := h.cnt k
    refine bK_iq (Q := fun z => z = _) (fun c1 => ?_) (fun c1 => ?_)
    · rw [bK_neg (decide_eq_false (fun c2 => this ⟨c1, c2⟩))]; rfl
    · rfl
def amHd (d : (Bool × List Row4) × (Bool × List Lease_T) × Int × Int) : St := amh d.1.1 d.1.2 d.2.1.1 d.2.1.2 d.2.2.1 d.2.2.2 1
theorem amHd_inj (d d' : (Bool × List Row4) × (Bool × List Lease_T) × Int × Int) (h : amHd d = amHd d') : d = d' := by
  obtain ⟨⟨lx, l⟩, ⟨xx, x⟩, now, i⟩ := d
  obtain ⟨⟨lx', l'⟩, ⟨xx', x'⟩, now', i'⟩ := d'
  simp only [amHd, amh, St.mk.injEq, List.cons.injEq, Prod.mk.injEq, AV.slc.injEq, AV.int.injEq, and_true, true_and] at h
  obtain ⟨⟨h1, h2⟩, ⟨h3, h4⟩, h5, h6⟩ := h
  rw [h1, map_inj (fs := Row4_fs) rfl h2, h3, map_inj (fs := Lease_tfs) rfl h4, h5, h6]
noncomputable def amL : LP := LP.of amHd (fun d => AInv d.2.2.1 d.2.1.2 ∧ d.2.1.2.length ≤ 1000) fun d => .leaf (.exit 3, { fr := [(0, .slc d.1.1 (d.1.2.map (mkV true Row4_fs))), (3, .slc d.2.1.1 (d.2.1.2.map (mkV true Lease_tfs))), (4, .int .i64 d.2.2.1), (5, .int .i64 d.2.2.2)], bs := [], df := [] })
noncomputable def amP : LPs := LPs.add aiP 4 3 amL
theorem amP_ok : LPok Try.prog cfg N5 amP 4 := LPok.addH aiP_ok go4 (by
  rintro ⟨⟨lx, l⟩, ⟨xx, x⟩, now, i⟩ h
  exact am_run lx l xx x now i h.1 h.2 2 1 (by omega) (by omega) rounds (by simp only [rounds]; omega))
noncomputable def ao_s (lx : Bool) (l : List Row4) (xx : Bool) (x : List Lease_T) (now i : Int) : Option (St ⊕ (Ex × St)) := stepK Try.prog cfg N5 amP 4 0 (aoh lx l xx x now i)
noncomputable def ao_s_r (lx : Bool) (l : List Row4) (xx : Bool) (x : List Lease_T) (now : Int) (i : Int) : Option (St ⊕ Ex × St) :=
  bK (decide (i < (↑(List.map (mkV true [Lf.fi IntKind.u8, Lf.fi IntKind.u8, Lf.fi IntKind.u8, Lf.fi IntKind.u8]) l).length : Int)))
  (oK (elemAt true [Lf.fi IntKind.u8, Lf.fi IntKind.u8, Lf.fi IntKind.u8, Lf.fi IntKind.u8] (List.map (mkV true [Lf.fi IntKind.u8, Lf.fi IntKind.u8, Lf.fi IntKind.u8, Lf.fi IntKind.u8]) l) i) fun (d0 : Int × Int × Int × Int) =>
    oK (elemAt true [Lf.fi IntKind.u8, Lf.fi IntKind.u8, Lf.fi IntKind.u8, Lf.fi IntKind.u8] (List.map (mkV true [Lf.fi IntKind.u8, Lf.fi IntKind.u8, Lf.fi IntKind.u8, Lf.fi IntKind.u8]) l) i) fun (d1 : Int × Int × Int × Int) =>
      oK (elemAt true [Lf.fi IntKind.u8, Lf.fi IntKind.u8, Lf.fi IntKind.u8, Lf.fi IntKind.u8] (List.map (mkV true [Lf.fi IntKind.u8, Lf.fi IntKind.u8, Lf.fi IntKind.u8, Lf.fi IntKind.u8]) l) i) fun (d2 : Int × Int × Int × Int) =>
        oK (elemAt true [Lf.fi IntKind.u8, Lf.fi IntKind.u8, Lf.fi IntKind.u8, Lf.fi IntKind.u8] (List.map (mkV true [Lf.fi IntKind.u8, Lf.fi IntKind.u8, Lf.fi IntKind.u8, Lf.fi IntKind.u8]) l) i) fun (d3 : Int × Int × Int × Int) =>
          bK (decide (Int.tmod d3.fst 4 = 0))
            (oK (elemAt true [Lf.fi IntKind.u8, Lf.fi IntKind.u8, Lf.fi IntKind.u8, Lf.fi IntKind.u8] (List.map (mkV true [Lf.fi IntKind.u8, Lf.fi IntKind.u8, Lf.fi IntKind.u8, Lf.fi IntKind.u8]) l) i) fun (d4 : Int × Int × Int × Int) =>
              oK (pruneS.dec [AV.slc xx (List.map (mkV true Lease_tfs) x), AV.int IntKind.i64 (IntKind.i64.wrap (now + IntKind.i64.wrap (Int.tmod d4.snd.snd.snd 30)))] []) fun (d5 : (Bool × List (Int × Int × Int × Int)) × Int) => oK (amL.dec { fr := [(0, AV.slc lx (List.map (mkV true [Lf.fi IntKind.u8, Lf.fi IntKind.u8, Lf.fi IntKind.u8, Lf.fi IntKind.u8]) l)), (3, AV.slc d5.fst.snd.isEmpty (List.map (mkV true Lease_tfs) (pruneQ d5.fst.snd d5.snd))), (4, AV.int IntKind.i64 (IntKind.i64.wrap (now + IntKind.i64.wrap (Int.tmod d4.snd.snd.snd 30)))), (5, AV.int IntKind.i64 i), (9, AV.int IntKind.i64 1)], bs := [], df := [] }) fun (d6 : (Bool × List (Int × Int × Int × Int)) × (Bool × List (Int × Int × Int × Int)) × Int × Int) => oK (mayS.dec [AV.slc d6.snd.fst.fst (List.map (mkV true Lease_tfs) d6.snd.fst.snd)] []) fun (d7 : Bool × List (Int × Int × Int × Int)) => bK (!mayQ d7.snd) (some (Sum.inr (Ex.ret, { fr := [(2, AV.bool false)], bs := [], df := [] }))) (some (Sum.inl { fr := [(0, AV.slc d6.fst.fst (List.map (mkV true [Lf.fi IntKind.u8, Lf.fi IntKind.u8, Lf.fi IntKind.u8, Lf.fi IntKind.u8]) d6.fst.snd)), (3, AV.slc d6.snd.fst.fst (List.map (mkV true Lease_tfs) d6.snd.fst.snd)), (4, AV.int IntKind.i64 d6.snd.snd.fst), (5, AV.int IntKind.i64 (IntKind.i64.wrap (d6.snd.snd.snd + 1)))], bs := [], df := [] })))
            (bK (decide (Int.tmod d3.fst 4 = 1)) (oK (dropS.dec [AV.slc xx (List.map (mkV true Lease_tfs) x), AV.int IntKind.i64 (IntKind.i64.wrap (1 + IntKind.i64.wrap (Int.tmod d0.snd.fst 3))), AV.int IntKind.i64 (IntKind.i64.wrap (1 + IntKind.i64.wrap (Int.tmod d1.snd.snd.fst 2)))] []) fun (d8 : (Bool × List (Int × Int × Int × Int)) × Int × Int) => oK (amL.dec { fr := [(0, AV.slc lx (List.map (mkV true [Lf.fi IntKind.u8, Lf.fi IntKind.u8, Lf.fi IntKind.u8, Lf.fi IntKind.u8]) l)), (3, AV.slc d8.fst.snd.isEmpty (List.map (mkV true Lease_tfs) (dropQ d8.fst.snd d8.snd.fst d8.snd.snd))), (4, AV.int IntKind.i64 now), (5, AV.int IntKind.i64 i), (9, AV.int IntKind.i64 1)], bs := [], df := [] }) fun (d9 : (Bool × List (Int × Int × Int × Int)) × (Bool × List (Int × Int × Int × Int)) × Int × Int) => oK (mayS.dec [AV.slc d9.snd.fst.fst (List.map (mkV true Lease_tfs) d9.snd.fst.snd)] []) fun (d10 : Bool × List (Int × Int × Int × Int)) => bK (!mayQ d10.snd) (some (Sum.inr (Ex.ret, { fr := [(2, AV.bool false)], bs := [], df := [] }))) (some (Sum.inl { fr := [(0, AV.slc d9.fst.fst (List.map (mkV true [Lf.fi IntKind.u8, Lf.fi IntKind.u8, Lf.fi IntKind.u8, Lf.fi IntKind.u8]) d9.fst.snd)), (3, AV.slc d9.snd.fst.fst (List.map (mkV true Lease_tfs) d9.snd.fst.snd)), (4, AV.int IntKind.i64 d9.snd.snd.fst), (5, AV.int IntKind.i64 (IntKind.i64.wrap (d9.snd.snd.snd + 1)))], bs := [], df := [] })))
              (oK (clashS.dec [AV.slc xx (List.map (mkV true Lease_tfs) x), AV.int IntKind.i64 now, AV.int IntKind.i64 (IntKind.i64.wrap (1 + IntKind.i64.wrap (Int.tmod d0.snd.fst 3))), AV.int IntKind.i64 (IntKind.i64.wrap (1 + IntKind.i64.wrap (Int.tmod d1.snd.snd.fst 2))), AV.int IntKind.i64 (IntKind.i64.wrap (1 + IntKind.i64.wrap (Int.tmod d2.snd.snd.snd 2)))] []) fun (d11 : (Bool × List (Int × Int × Int × Int)) × Int × Int × Int × Int) =>
                bK (decide ((↑(List.map (mkV false I1_tfs) (csF d11.fst.snd d11.snd.fst d11.snd.snd.fst d11.snd.snd.snd.fst d11.snd.snd.snd.snd)).length : Int) = 0))
                  (oK (granS.dec [AV.slc xx (List.map (mkV true Lease_tfs) x), AV.agg [AV.int IntKind.i64 (IntKind.i64.wrap (1 + IntKind.i64.wrap (Int.tmod d0.snd.fst 3))), AV.int IntKind.i64 (IntKind.i64.wrap (1 + IntKind.i64.wrap (Int.tmod d1.snd.snd.fst 2))), AV.int IntKind.i64 (IntKind.i64.wrap (1 + IntKind.i64.wrap (Int.tmod d2.snd.snd.snd 2))), AV.int IntKind.i64 (IntKind.i64.wrap (now + 20))]] []) fun (d12 : (Bool × List (Int × Int × Int × Int)) × Int × Int × Int × Int) =>
                    oK (holdsS.dec [AV.slc false (List.map (mkV true Lease_tfs) (granQ d12.fst.snd d12.snd)), AV.int IntKind.i64 now, AV.int IntKind.i64 (IntKind.i64.wrap (1 + IntKind.i64.wrap (Int.tmod d0.snd.fst 3))), AV.int IntKind.i64 (IntKind.i64.wrap (1 + IntKind.i64.wrap (Int.tmod d1.snd.snd.fst 2)))] []) fun (d13 : (Bool × List (Int × Int × Int × Int)) × Int × Int × Int) =>
                      bK (decide (holdQ d13.fst.snd d13.snd.fst d13.snd.snd.fst d13.snd.snd.snd < IntKind.i64.wrap (1 + IntKind.i64.wrap (Int.tmod d2.snd.snd.snd 2)))) (some (Sum.inr (Ex.ret, { fr := [(2, AV.bool false)], bs := [], df := [] }))) (oK (amL.dec { fr := [(0, AV.slc lx (List.map (mkV true [Lf.fi IntKind.u8, Lf.fi IntKind.u8, Lf.fi IntKind.u8, Lf.fi IntKind.u8]) l)), (3, AV.slc false (List.map (mkV true Lease_tfs) (granQ d12.fst.snd d12.snd))), (4, AV.int IntKind.i64 now), (5, AV.int IntKind.i64 i), (9, AV.int IntKind.i64 1)], bs := [], df := [] }) fun (d14 : (Bool × List (Int × Int × Int × Int)) × (Bool × List (Int × Int × Int × Int)) × Int × Int) => oK (mayS.dec [AV.slc d14.snd.fst.fst (List.map (mkV true Lease_tfs) d14.snd.fst.snd)] []) fun (d15 : Bool × List (Int × Int × Int × Int)) => bK (!mayQ d15.snd) (some (Sum.inr (Ex.ret, { fr := [(2, AV.bool false)], bs := [], df := [] }))) (some (Sum.inl { fr := [(0, AV.slc d14.fst.fst (List.map (mkV true [Lf.fi IntKind.u8, Lf.fi IntKind.u8, Lf.fi IntKind.u8, Lf.fi IntKind.u8]) d14.fst.snd)), (3, AV.slc d14.snd.fst.fst (List.map (mkV true Lease_tfs) d14.snd.fst.snd)), (4, AV.int IntKind.i64 d14.snd.snd.fst), (5, AV.int IntKind.i64 (IntKind.i64.wrap (d14.snd.snd.snd + 1)))], bs := [], df := [] }))))
                  (oK (amL.dec { fr := [(0, AV.slc lx (List.map (mkV true [Lf.fi IntKind.u8, Lf.fi IntKind.u8, Lf.fi IntKind.u8, Lf.fi IntKind.u8]) l)), (3, AV.slc xx (List.map (mkV true Lease_tfs) x)), (4, AV.int IntKind.i64 now), (5, AV.int IntKind.i64 i), (9, AV.int IntKind.i64 1)], bs := [], df := [] }) fun (d16 : (Bool × List (Int × Int × Int × Int)) × (Bool × List (Int × Int × Int × Int)) × Int × Int) => oK (mayS.dec [AV.slc d16.snd.fst.fst (List.map (mkV true Lease_tfs) d16.snd.fst.snd)] []) fun (d17 : Bool × List (Int × Int × Int × Int)) => bK (!mayQ d17.snd) (some (Sum.inr (Ex.ret, { fr := [(2, AV.bool false)], bs := [], df := [] }))) (some (Sum.inl { fr := [(0, AV.slc d16.fst.fst (List.map (mkV true [Lf.fi IntKind.u8, Lf.fi IntKind.u8, Lf.fi IntKind.u8, Lf.fi IntKind.u8]) d16.fst.snd)), (3, AV.slc d16.snd.fst.fst (List.map (mkV true Lease_tfs) d16.snd.fst.snd)), (4, AV.int IntKind.i64 d16.snd.snd.fst), (5, AV.int IntKind.i64 (IntKind.i64.wrap (d16.snd.snd.snd + 1)))], bs := [], df := [] }))))))
  (some (Sum.inr (Ex.exit 0, { fr := [], bs := [], df := [] })))
theorem ao_s_w (lx : Bool) (l : List Row4) (xx : Bool) (x : List Lease_T) (now : Int) (i : Int) : ao_s lx l xx x now i = ao_s_r lx l xx x now i := by kernel_rfl

end Go.Proofs.Ytbifdenekkijfaa
