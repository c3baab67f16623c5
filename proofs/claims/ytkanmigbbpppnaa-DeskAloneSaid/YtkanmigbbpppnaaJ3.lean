/- A part of the proof: contracts of functions. -/
import Derived.Test.YtkanmigbbpppnaaI3
import Derived.Test.YtkanmigbbpppnaaAbAny
set_option linter.unusedVariables false
set_option linter.unusedSimpArgs false
set_option maxRecDepth 100000
namespace Go.Proofs.Ytkanmigbbpppnaa
open Go Go.Ab
def aoh (lx : Bool) (l : List Row4) (D : Desk_T) (now i : Int) : St := { fr := [(1, .slc lx (l.map (mkV true Row4_fs))), (5, .ptr 80 0 0 0), (6, .int .i64 now), (7, .int .i64 i)], bs := [(80, boxB (Tu.mk Desk_tfs D))], df := [] }
def amh (lx : Bool) (l : List Row4) (D : Desk_T) (now i k : Int) : St := { fr := [(1, .slc lx (l.map (mkV true Row4_fs))), (5, .ptr 80 0 0 0), (6, .int .i64 now), (7, .int .i64 i), (15, .int .i64 k)], bs := [(80, boxB (Tu.mk Desk_tfs D))], df := [] }
def aih (lx : Bool) (l : List Row4) (D : Desk_T) (now i k wr al n : Int) : St := { fr := [(1, .slc lx (l.map (mkV true Row4_fs))), (5, .ptr 80 0 0 0), (6, .int .i64 now), (7, .int .i64 i), (15, .int .i64 k), (16, .int .i64 wr), (17, .int .i64 al), (18, .int .i64 n)], bs := [(80, boxB (Tu.mk Desk_tfs D))], df := [] }
def aix (lx : Bool) (l : List Row4) (D : Desk_T) (now i k wr al : Int) : St := { fr := [(1, .slc lx (l.map (mkV true Row4_fs))), (5, .ptr 80 0 0 0), (6, .int .i64 now), (7, .int .i64 i), (15, .int .i64 k), (16, .int .i64 wr), (17, .int .i64 al)], bs := [(80, boxB (Tu.mk Desk_tfs D))], df := [] }
noncomputable def ai_s (lx : Bool) (l : List Row4) (D : Desk_T) (now i k wr al n : Int) : Option (St ⊕ (Ex × St)) := stepK Try.prog cfg La6 LP0 5 5 (aih lx l D now i k wr al n)
noncomputable def ai_s_r (lx : Bool) (l : List Row4) (D : Desk_T) (now : Int) (i : Int) (k : Int) (wr : Int) (al : Int) (n : Int) : Option (St ⊕ Ex × St) :=
  bK (decide (n ≤ 3))
 (oK (hrefS.dec [sl D.1.1 D.1.2, i6 now, i6 n, i6 k] []) fun (d0 : LW × Int × Int × Int) =>
 bK (!decide (rhQ d0.1.2 d0.2.1 d0.2.2.1 d0.2.2.2 = 0)) (bK (decide (rhQ d0.1.2 d0.2.1 d0.2.2.1 d0.2.2.2 = 2)) (some (.inl (sf [(1, .slc lx (List.map (mkV true Row4_fs) l)), (5, pt 80), (6, i6 now), (7, i6 i), (15, i6 k), (16, i6 (IntKind.i64.wrap (wr + 1))), (17, i6 (IntKind.i64.wrap (al + 1))), (18, i6 (IntKind.i64.wrap (n + 1)))] [(80, (bx [sl D.1.1 D.1.2, sl D.2.1 D.2.2]))]))) (some (.inl (sf [(1, .slc lx (List.map (mkV true Row4_fs) l)), (5, pt 80), (6, i6 now), (7, i6 i), (15, i6 k), (16, i6 wr), (17, i6 (IntKind.i64.wrap (al + 1))), (18, i6 (IntKind.i64.wrap (n + 1)))] [(80, (bx [sl D.1.1 D.1.2, sl D.2.1 D.2.2]))]))))
 (bK (decide (rhQ d0.1.2 d0.2.1 d0.2.2.1 d0.2.2.2 = 2)) (some (.inl (sf [(1, .slc lx (List.map (mkV true Row4_fs) l)), (5, pt 80), (6, i6 now), (7, i6 i), (15, i6 k), (16, i6 (IntKind.i64.wrap (wr + 1))), (17, i6 al), (18, i6 (IntKind.i64.wrap (n + 1)))] [(80, (bx [sl D.1.1 D.1.2, sl D.2.1 D.2.2]))]))) (some (.inl (sf [(1, .slc lx (List.map (mkV true Row4_fs) l)), (5, pt 80), (6, i6 now), (7, i6 i), (15, i6 k), (16, i6 wr), (17, i6 al), (18, i6 (IntKind.i64.wrap (n + 1)))] [(80, (bx [sl D.1.1 D.1.2, sl D.2.1 D.2.2]))])))))
 (some (.inr (.exit 5, (sf [(1, .slc lx (List.map (mkV true Row4_fs) l)), (5, pt 80), (6, i6 now), (7, i6 i), (15, i6 k), (16, i6 wr), (17, i6 al)] [(80, (bx [sl D.1.1 D.1.2, sl D.2.1 D.2.2]))]))))
theorem ai_s_w (lx : Bool) (l : List Row4) (D : Desk_T) (now : Int) (i : Int) (k : Int) (wr : Int) (al : Int) (n : Int) : ai_s lx l D now i k wr al n = ai_s_r lx l D now i k wr al n := by kernel_rfl
def cntW (x : List Lease_T) (now k : Int) : Nat → Int → Int
  | 0, _ => 0
  | j + 1, n => (if rhQ x now n k = 2 then 1 else 0) + cntW x now k j (n + 1)
def cntA (x : List Lease_T) (now k : Int) : Nat → Int → Int
  | 0, _ => 0
  | j + 1, n => (if rhQ x now n k = 0 then 0 else 1) + cntA x now k j (n + 1)
theorem gl5 : (loopsOf 0 (codeOf Try.prog 5)).map (·.1) = [0, 3, 5] := by kernel_rfl
theorem go5 : OneLoops Try.prog 5 := by unfold OneLoops; rw [gl5]; decide
theorem ga50 : At 0 (codeOf Try.prog 5) 0 (.loop (bodyAt Try.prog 5 0)) := at_body go5 (by rw [gl5]; decide)
theorem ga53 : At 0 (codeOf Try.prog 5) 3 (.loop (bodyAt Try.prog 5 3)) := at_body go5 (by rw [gl5]; decide)
theorem ga55 : At 0 (codeOf Try.prog 5) 5 (.loop (bodyAt Try.prog 5 5)) := at_body go5 (by rw [gl5]; decide)
theorem ai_run (lx : Bool) (l : List Row4) (D : Desk_T) (now i k : Int) (hx : D.1.2.length ≤ 1000) : ∀ (j : Nat) (wr al n : Int), 1 ≤ n → n + j = 4 → 0 ≤ wr → wr + j ≤ 100 → 0 ≤ al → al + j ≤ 100 → ∀ (fu : Nat), j < fu → Runs' Try.prog cfg La6 5 5 fu (aih lx l D now i k wr al n) (.exit 5, aix lx l D now i k (wr + cntW D.1.2 now k j n) (al + cntA D.1.2 now k j n))
  | 0, wr, al, n, h1, hn, a1, a2, a3, a4, fu + 1, hf => by
    refine Runs'.done (lp := LP0) LPok.none ga55 ((ai_s_w lx l D now i k wr al n).trans ?_)
    unfold ai_s_r
    rw [bK_neg (decide_eq_false (by omega)), cntW, cntA, Int.add_zero, Int.add_zero]
    rfl
  | j + 1, wr, al, n, h1, hn, a1, a2, a3, a4, fu + 1, hf => by
    have e1 : IntKind.i64.wrap (n + 1) = n + 1 := w64 (by omega) (by omega)
    have e2 : IntKind.i64.wrap (wr + 1) = wr + 1 := w64 (by omega) (by omega)
    have e3 : IntKind.i64.wrap (al + 1) = al + 1 := w64 (by omega) (by omega)
    have hs : ai_s lx l D now i k wr al n = some (.inl (aih lx l D now i k (wr + if rhQ D.1.2 now n k = 2 then 1 else 0) (al + if rhQ D.1.2 now n k = 0 then 0 else 1) (n + 1))) := by
      refine (ai_s_w lx l D now i k wr al n).trans ?_
      unfold ai_s_r
      rw [bK_pos (decide_eq_true (by omega)), e1, e2, e3]
      refine oK_fsq (Q := (· = _)) hrefS (D.1, now, n, k) (by show D.1.2.length ≤ 100000; omega) ?_
      dsimp only
      generalize rhQ D.1.2 now n k = a
      refine bK_nq (Q := (· = _)) (fun c1 => ?_) (fun c1 => ?_)
      · refine bK_iq (Q := (· = _)) (fun c2 => ?_) (fun c2 => ?_)
        · rw [if_pos c2, if_neg c1]; rfl
        · rw [if_neg c2, if_neg c1, Int.add_zero]; rfl
      · rw [bK_neg (decide_eq_false (by omega)), if_neg (by omega), if_pos c1, Int.add_zero, Int.add_zero]; rfl
    have := ai_run lx l D now i k hx j (wr + if rhQ D.1.2 now n k = 2 then 1 else 0) (al + if rhQ D.1.2 now n k = 0 then 0 else 1) (n + 1) (by omega) (by omega) (by split <;> omega) (by split <;> omega) (by split <;> omega) (by split <;> omega) fu (by omega)
    rw [Int.add_assoc, Int.add_assoc] at this
    exact Runs'.step (lp := LP0) LPok.none ga55 hs this
abbrev AiD : Type := (Bool × List Row4) × Desk_T × Int × Int × Int
def aiHd (d : AiD) : St := aih d.1.1 d.1.2 d.2.1 d.2.2.1 d.2.2.2.1 d.2.2.2.2 0 0 1
theorem aiHd_inj (d d' : AiD) (h : aiHd d = aiHd d') : d = d' := by
  obtain ⟨⟨lx, l⟩, D, now, i, k⟩ := d
  obtain ⟨⟨lx', l'⟩, D', now', i', k'⟩ := d'
  simp only [aiHd, aih, boxB, St.mk.injEq, List.cons.injEq, Prod.mk.injEq, AV.slc.injEq, AV.int.injEq, Blk.mk.injEq, and_true, true_and] at h
  obtain ⟨⟨⟨h1, h2⟩, h5, h6, h7⟩, h8⟩ := h
  rw [h1, map_inj (fs := Row4_fs) rfl h2, h5, h6, h7, mk_inj (fs := Desk_tfs) rfl h8]
def wrQ (x : List Lease_T) (now k : Int) : Int := cntW x now k 3 1
def alQ (x : List Lease_T) (now k : Int) : Int := cntA x now k 3 1
noncomputable def aiL : LP := LP.of aiHd (fun d => d.2.1.1.2.length ≤ 1000) fun d => .leaf (.exit 5, aix d.1.1 d.1.2 d.2.1 d.2.2.1 d.2.2.2.1 d.2.2.2.2 (wrQ d.2.1.1.2 d.2.2.1 d.2.2.2.2) (alQ d.2.1.1.2 d.2.2.1 d.2.2.2.2))
noncomputable def aiP : LPs := LPs.add LP0 5 5 aiL
theorem aiP_ok : LPok Try.prog cfg La6 aiP 5 := LPok.addH LPok.none go5 (by
  rintro ⟨⟨lx, l⟩, D, now, i, k⟩ h
  have := ai_run lx l D now i k h 3 0 0 1 (by omega) (by omega) (by omega) (by omega) (by omega) (by omega) rounds (by simp only [rounds]; omega)
  rw [Int.zero_add, Int.zero_add] at this
  exact this)
theorem AInv.two {now : Int} {x : List Lease_T} (h : AInv now x) {a b k : Int} (hab : a ≠ b) (h2 : rhQ x now a k = 2) : rhQ x now b k = 0 := by
  rw [rh_eq h.inv.srt] at h2 ⊢
  refine Classical.byContradiction fun hn => ?_
  obtain ⟨w, hw, w1, w2, w3⟩ := hold_ne h.inv.srt (show holdQ x now a k ≠ 0 by omega)
  obtain ⟨v, hv, v1, v2, v3⟩ := hold_ne h.inv.srt hn
  have := h.alone w hw v hv (w1.2.trans v1.2.symm) (by omega)
  exact hab (w1.1.symm.trans (this.trans v1.1))
theorem AInv.cnt {now : Int} {x : List Lease_T} (h : AInv now x) (k : Int) : ¬ (0 < wrQ x now k ∧ 1 < alQ x now k) := by
  have a1 := h.two (a := 1) (b := 2) (k := k) (by omega)
  have a2 := h.two (a := 1) (b := 3) (k := k) (by omega)
  have a3 := h.two (a := 2) (b := 1) (k := k) (by omega)
  have a4 := h.two (a := 2) (b := 3) (k := k) (by omega)
  have a5 := h.two (a := 3) (b := 1) (k := k) (by omega)
  have a6 := h.two (a := 3) (b := 2) (k := k) (by omega)
  show ¬ (0 < cntW x now k 3 1 ∧ 1 < cntA x now k 3 1)
  simp only [cntW, cntA, show (1 : Int) + 1 = 2 from rfl, show (2 : Int) + 1 = 3 from rfl]
  generalize rhQ x now 1 k = p at *
  generalize rhQ x now 2 k = q at *
  generalize rhQ x now 3 k = r at *
  repeat' split
  all_goals omega
noncomputable def am_s (lx : Bool) (l : List Row4) (D : Desk_T) (now i k : Int) : Option (St ⊕ (Ex × St)) := stepK Try.prog cfg La6 aiP 5 3 (amh lx l D now i k)
noncomputable def am_s_r (lx : Bool) (l : List Row4) (D : Desk_T) (now : Int) (i : Int) (k : Int) : Option (St ⊕ Ex × St) :=
  bK (decide (k ≤ 3))
 (oK (aiL.dec (sf [(1, .slc lx (List.map (mkV true Row4_fs) l)), (5, pt 80), (6, i6 now), (7, i6 i), (15, i6 k), (16, i6 0), (17, i6 0), (18, i6 1)] [(80, (bx [sl D.1.1 D.1.2, sl D.2.1 D.2.2]))])) fun (d0 : LW × Desk_T × Int × Int × Int) =>
 bK (decide (0 < wrQ d0.2.1.1.2 d0.2.2.1 d0.2.2.2.2)) (bK (decide (1 < alQ d0.2.1.1.2 d0.2.2.1 d0.2.2.2.2)) (some (.inr (.ret, (sf [(1, .slc d0.1.1 (List.map (mkV true Row4_fs) d0.1.2)), (4, .bool false), (5, pt 80), (6, i6 d0.2.2.1), (7, i6 d0.2.2.2.1)] [(80, (bx [sl d0.2.1.1.1 d0.2.1.1.2, sl d0.2.1.2.1 d0.2.1.2.2]))])))) (some (.inl (sf [(1, .slc d0.1.1 (List.map (mkV true Row4_fs) d0.1.2)), (5, pt 80), (6, i6 d0.2.2.1), (7, i6 d0.2.2.2.1), (15, i6 (IntKind.i64.wrap (d0.2.2.2.2 + 1)))] [(80, (bx [sl d0.2.1.1.1 d0.2.1.1.2, sl d0.2.1.2.1 d0.2.1.2.2]))]))))
 (some (.inl (sf [(1, .slc d0.1.1 (List.map (mkV true Row4_fs) d0.1.2)), (5, pt 80), (6, i6 d0.2.2.1), (7, i6 d0.2.2.2.1), (15, i6 (IntKind.i64.wrap (d0.2.2.2.2 + 1)))] [(80, (bx [sl d0.2.1.1.1 d0.2.1.1.2, sl d0.2.1.2.1 d0.2.1.2.2]))]))))
 (some (.inr (.exit 3, (sf [(1, .slc lx (List.map (mkV true Row4_fs) l)), (5, pt 80), (6, i6 now), (7, i6 i)] [(80, (bx [sl D.1.1 D.1.2, sl D.2.1 D.2.2]))]))))
theorem am_s_w (lx : Bool) (l : List Row4) (D : Desk_T) (now : Int) (i : Int) (k : Int) : am_s lx l D now i k = am_s_r lx l D now i k := by kernel_rfl
theorem am_run (lx : Bool) (l : List Row4) (D : Desk_T) (now i : Int) (h : AInv now D.1.2) (hx : D.1.2.length ≤ 1000) : ∀ (j : Nat) (k : Int), 1 ≤ k → k + j = 4 → ∀ (fu : Nat), j < fu → Runs' Try.prog cfg La6 5 3 fu (amh lx l D now i k) (.exit 3, aoh lx l D now i)
  | 0, k, h1, hk, fu + 1, hf => by
    refine Runs'.done (lp := aiP) aiP_ok ga53 ((am_s_w lx l D now i k).trans ?_)
    unfold am_s_r
    exact bK_neg (decide_eq_false (by omega))
  | j + 1, k, h1, hk, fu + 1, hf => by
    refine Runs'.step (lp := aiP) aiP_ok ga53 ((am_s_w lx l D now i k).trans ?_) (am_run lx l D now i h hx j (k + 1) (by omega) (by omega) fu (by omega))
    unfold am_s_r
    rw [bK_pos (decide_eq_true (by omega))]
    refine oK_lpf (Q := (· = _)) aiHd_inj ((lx, l), D, now, i, k) hx rfl ?_
    dsimp only
    rw [w64 (n := k + 1) (by omega) (by omega)]
    have := h.cnt k
    refine bK_iq (Q := (· = _)) (fun c1 => ?_) (fun c1 => ?_)
    · rw [bK_neg (decide_eq_false (fun c2 => this ⟨c1, c2⟩))]; rfl
    · rfl
def amHd (d : (Bool × List Row4) × Desk_T × Int × Int) : St := amh d.1.1 d.1.2 d.2.1 d.2.2.1 d.2.2.2 1
theorem amHd_inj (d d' : (Bool × List Row4) × Desk_T × Int × Int) (h : amHd d = amHd d') : d = d' := by
  obtain ⟨⟨lx, l⟩, D, now, i⟩ := d
  obtain ⟨⟨lx', l'⟩, D', now', i'⟩ := d'
  simp only [amHd, amh, boxB, St.mk.injEq, List.cons.injEq, Prod.mk.injEq, AV.slc.injEq, AV.int.injEq, Blk.mk.injEq, and_true, true_and] at h
  obtain ⟨⟨⟨h1, h2⟩, h5, h6⟩, h8⟩ := h
  rw [h1, map_inj (fs := Row4_fs) rfl h2, h5, h6, mk_inj (fs := Desk_tfs) rfl h8]
def aloneP (D : Desk_T) (now : Int) : Prop := AInv now D.1.2 ∧ D.1.2.length ≤ 1000
noncomputable def amL : LP := LP.of amHd (fun d => aloneP d.2.1 d.2.2.1) fun d => .leaf (.exit 3, aoh d.1.1 d.1.2 d.2.1 d.2.2.1 d.2.2.2)
noncomputable def amP : LPs := LPs.add aiP 5 3 amL
theorem amP_ok : LPok Try.prog cfg La6 amP 5 := LPok.addH aiP_ok go5 (by
  rintro ⟨⟨lx, l⟩, D, now, i⟩ h
  exact am_run lx l D now i h.1 h.2 3 1 (by omega) (by omega) rounds (by simp only [rounds]; omega))
noncomputable def ao_s (lx : Bool) (l : List Row4) (D : Desk_T) (now i : Int) : Option (St ⊕ (Ex × St)) := stepK Try.prog cfg La6 amP 5 0 (aoh lx l D now i)
noncomputable def ao_s_r (lx : Bool) (l : List Row4) (D : Desk_T) (now : Int) (i : Int) : Option (St ⊕ Ex × St) :=
  bK (decide (i < (↑(List.map (mkV true Row4_fs) l).length : Int)))
 (oK (elemAt true Row4_fs (List.map (mkV true Row4_fs) l) i) fun (d0 : Int × Int × Int × Int) =>
 oK (elemAt true Row4_fs (List.map (mkV true Row4_fs) l) i) fun (d1 : Int × Int × Int × Int) =>
 oK (elemAt true Row4_fs (List.map (mkV true Row4_fs) l) i) fun (d2 : Int × Int × Int × Int) =>
 bK (decide (Int.tmod d2.1 4 = 0))
 (oK (dgiveS.dec [AV.agg [sl D.1.1 D.1.2, sl D.2.1 D.2.2], i6 (IntKind.i64.wrap (1 + IntKind.i64.wrap (Int.tmod d0.2.1 3))), i6 (IntKind.i64.wrap (1 + IntKind.i64.wrap (Int.tmod d1.2.2.1 3)))] []) fun (d3 : LW × LW × Int × Int) =>
 oK (amL.dec (sf [(1, .slc lx (List.map (mkV true Row4_fs) l)), (5, pt 80), (6, i6 now), (7, i6 i), (15, i6 1)] [(80, (bx [sl d3.1.2.isEmpty (dropQ d3.1.2 d3.2.2.1 d3.2.2.2), sl d3.2.1.2.isEmpty d3.2.1.2]))])) fun (d4 : LW × Desk_T × Int × Int) =>
 oK (mrefS.dec [sl d4.2.1.1.1 d4.2.1.1.2] []) fun (d5 : Bool × List Wait_T) => bK (!mayQ d5.2) (some (.inr (.ret, (sf [(4, .bool false)] [])))) (bK (decide (4 < (↑(mW d4.2.1.2.2).length : Int))) (some (.inr (.ret, (sf [(4, .bool false)] [])))) (some (.inl (sf [(1, .slc d4.1.1 (List.map (mkV true Row4_fs) d4.1.2)), (5, pt 80), (6, i6 d4.2.2.1), (7, i6 (IntKind.i64.wrap (d4.2.2.2 + 1)))] [(80, (bx [sl d4.2.1.1.1 d4.2.1.1.2, sl d4.2.1.2.1 d4.2.1.2.2]))])))))
 (bK (decide (Int.tmod d2.1 4 = 1))
 (oK (elemAt true Row4_fs (List.map (mkV true Row4_fs) l) i) fun (d6 : Int × Int × Int × Int) =>
 oK (drunS.dec [AV.agg [sl D.1.1 D.1.2, sl D.2.1 D.2.2], i6 (IntKind.i64.wrap (now + IntKind.i64.wrap (Int.tmod d6.2.2.2 40)))] []) fun (d7 : LW × LW × Int) =>
 oK (amL.dec (sf [(1, .slc lx (List.map (mkV true Row4_fs) l)), (5, pt 80), (6, i6 (IntKind.i64.wrap (now + IntKind.i64.wrap (Int.tmod d6.2.2.2 40)))), (7, i6 i), (15, i6 1)] [(80, (bx [.slc (runQ (d7.1, d7.2.1) d7.2.2).1.1 (mW (runQ (d7.1, d7.2.1) d7.2.2).1.2), .slc (runQ (d7.1, d7.2.1) d7.2.2).2.1.1 (mW (runQ (d7.1, d7.2.1) d7.2.2).2.1.2)]))])) fun (d8 : LW × Desk_T × Int × Int) =>
 oK (mrefS.dec [sl d8.2.1.1.1 d8.2.1.1.2] []) fun (d9 : Bool × List Wait_T) => bK (!mayQ d9.2) (some (.inr (.ret, (sf [(4, .bool false)] [])))) (bK (decide (4 < (↑(mW d8.2.1.2.2).length : Int))) (some (.inr (.ret, (sf [(4, .bool false)] [])))) (some (.inl (sf [(1, .slc d8.1.1 (List.map (mkV true Row4_fs) d8.1.2)), (5, pt 80), (6, i6 d8.2.2.1), (7, i6 (IntKind.i64.wrap (d8.2.2.2 + 1)))] [(80, (bx [sl d8.2.1.1.1 d8.2.1.1.2, sl d8.2.1.2.1 d8.2.1.2.2]))])))))
 (oK (elemAt true Row4_fs (List.map (mkV true Row4_fs) l) i) fun (d10 : Int × Int × Int × Int) =>
 oK (daskS.dec [AV.agg [sl D.1.1 D.1.2, sl D.2.1 D.2.2], i6 now, AV.agg [i6 (IntKind.i64.wrap (1 + IntKind.i64.wrap (Int.tmod d0.2.1 3))), i6 i, i6 (IntKind.i64.wrap (1 + IntKind.i64.wrap (Int.tmod d1.2.2.1 3))), i6 (IntKind.i64.wrap (1 + IntKind.i64.wrap (Int.tmod d10.2.2.2 2)))]] []) fun (d11 : LW × LW × Int × Int × Int × Int × Int) =>
 bK (askQ d11.1.2 d11.2.1.2 d11.2.2.1 d11.2.2.2).2.2.1
 (oK (aheadRSw.dec [sl D.2.1 D.2.2, i6 (IntKind.i64.wrap (1 + IntKind.i64.wrap (Int.tmod d0.2.1 3))), i6 (IntKind.i64.wrap (1 + IntKind.i64.wrap (Int.tmod d1.2.2.1 3)))] []) fun (d12 : LW × Int × Int) =>
 bK (aheadQw d12) (some (.inr (.ret, (sf [(4, .bool false)] []))))
 (oK (amL.dec (sf [(1, .slc lx (List.map (mkV true Row4_fs) l)), (5, pt 80), (6, i6 now), (7, i6 i), (15, i6 1)] [(80, (bx [.slc (askQ d11.1.2 d11.2.1.2 d11.2.2.1 d11.2.2.2).1.1 (mW (askQ d11.1.2 d11.2.1.2 d11.2.2.1 d11.2.2.2).1.2), .slc (askQ d11.1.2 d11.2.1.2 d11.2.2.1 d11.2.2.2).2.1.1 (mW (askQ d11.1.2 d11.2.1.2 d11.2.2.1 d11.2.2.2).2.1.2)]))])) fun (d13 : LW × Desk_T × Int × Int) =>
 oK (mrefS.dec [sl d13.2.1.1.1 d13.2.1.1.2] []) fun (d14 : Bool × List Wait_T) => bK (!mayQ d14.2) (some (.inr (.ret, (sf [(4, .bool false)] [])))) (bK (decide (4 < (↑(mW d13.2.1.2.2).length : Int))) (some (.inr (.ret, (sf [(4, .bool false)] [])))) (some (.inl (sf [(1, .slc d13.1.1 (List.map (mkV true Row4_fs) d13.1.2)), (5, pt 80), (6, i6 d13.2.2.1), (7, i6 (IntKind.i64.wrap (d13.2.2.2 + 1)))] [(80, (bx [sl d13.2.1.1.1 d13.2.1.1.2, sl d13.2.1.2.1 d13.2.1.2.2]))]))))))
 (oK (amL.dec (sf [(1, .slc lx (List.map (mkV true Row4_fs) l)), (5, pt 80), (6, i6 now), (7, i6 i), (15, i6 1)] [(80, (bx [.slc (askQ d11.1.2 d11.2.1.2 d11.2.2.1 d11.2.2.2).1.1 (mW (askQ d11.1.2 d11.2.1.2 d11.2.2.1 d11.2.2.2).1.2), .slc (askQ d11.1.2 d11.2.1.2 d11.2.2.1 d11.2.2.2).2.1.1 (mW (askQ d11.1.2 d11.2.1.2 d11.2.2.1 d11.2.2.2).2.1.2)]))])) fun (d15 : LW × Desk_T × Int × Int) =>
 oK (mrefS.dec [sl d15.2.1.1.1 d15.2.1.1.2] []) fun (d16 : Bool × List Wait_T) => bK (!mayQ d16.2) (some (.inr (.ret, (sf [(4, .bool false)] [])))) (bK (decide (4 < (↑(mW d15.2.1.2.2).length : Int))) (some (.inr (.ret, (sf [(4, .bool false)] [])))) (some (.inl (sf [(1, .slc d15.1.1 (List.map (mkV true Row4_fs) d15.1.2)), (5, pt 80), (6, i6 d15.2.2.1), (7, i6 (IntKind.i64.wrap (d15.2.2.2 + 1)))] [(80, (bx [sl d15.2.1.1.1 d15.2.1.1.2, sl d15.2.1.2.1 d15.2.1.2.2]))]))))))))
 (some (.inr (.exit 0, (sf [] []))))
theorem ao_s_w (lx : Bool) (l : List Row4) (D : Desk_T) (now : Int) (i : Int) : ao_s lx l D now i = ao_s_r lx l D now i := by kernel_rfl
end Go.Proofs.Ytkanmigbbpppnaa
