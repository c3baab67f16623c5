/- A part of the proof: contracts of functions. -/
import Derived.Test.YtbifdenekkijfaaK
import Derived.Test.YtbifdenekkijfaaAbAny

set_option linter.unusedVariables false
set_option linter.unusedSimpArgs false
set_option maxRecDepth 100000
namespace Go.Proofs.Ytbifdenekkijfaa
open Go Go.Ab
noncomputable def M1 : PKs := D1.add 21 granS.pk
noncomputable def M2 : PKs := M1.add 11 holdsS.pk
noncomputable def M3 : PKs := M2.add 19 mayS.pk
theorem M1_ok : PKsOk Try.prog M1 := PKsOk.anyF D1_ok 21 granS granO
theorem M2_ok : PKsOk Try.prog M2 := PKsOk.anyF M1_ok 11 holdsS holdsO
theorem M3_ok : PKsOk Try.prog M3 := PKsOk.anyF M2_ok 19 mayS mayO
def gih (lx : Bool) (l : List Lease_T) (x : Lease_T) (yx : Bool) (y : List Lease_T) (t i k : Int) : St := { fr := [(13, .slc lx (l.map (mkV true Lease_tfs))), (14, .ptr 224 0 0 0), (15, .slc yx (y.map (mkV true Lease_tfs))), (16, .int .i64 t), (17, .int .i64 i), (18, .int .i64 k)], bs := [(224, boxB (Tu.mk Lease_tfs x))], df := [] }
noncomputable def gi_s (lx : Bool) (l : List Lease_T) (x : Lease_T) (yx : Bool) (y : List Lease_T) (t i k : Int) : Option (St ⊕ (Ex × St)) := stepK Try.prog cfg M3 LP0 7 2 (gih lx l x yx y t i k)
noncomputable def gi_s_r (lx : Bool) (l : List Lease_T) (x : Lease_T) (yx : Bool) (y : List Lease_T) (t : Int) (i : Int) (k : Int) : Option (St ⊕ Ex × St) :=
  bK (decide (k ≤ 3))
  (oK (holdsS.dec [AV.slc lx (List.map (mkV true Lease_tfs) l), AV.int IntKind.i64 t, AV.int IntKind.i64 i, AV.int IntKind.i64 k] []) fun (d0 : (Bool × List (Int × Int × Int × Int)) × Int × Int × Int) =>
    oK (holdsS.dec [AV.slc yx (List.map (mkV true Lease_tfs) y), AV.int IntKind.i64 t, AV.int IntKind.i64 i, AV.int IntKind.i64 k] []) fun (d1 : (Bool × List (Int × Int × Int × Int)) × Int × Int × Int) =>
      bK (decide (i = x.fst))
        (bK (!decide (k = x.snd.fst))
          (bK (!decide (holdQ d1.fst.snd d1.snd.fst d1.snd.snd.fst d1.snd.snd.snd = holdQ d0.fst.snd d0.snd.fst d0.snd.snd.fst d0.snd.snd.snd)) (some (Sum.inr (Ex.ret, { fr := [(12, AV.bool false), (13, AV.slc lx (List.map (mkV true Lease_tfs) l)), (14, AV.ptr 224 0 0 0), (15, AV.slc yx (List.map (mkV true Lease_tfs) y)), (16, AV.int IntKind.i64 t), (17, AV.int IntKind.i64 i)], bs := [(224, { v := 0, k := BK.box, fz := false, sz := 0, es := [AV.int IntKind.i64 x.fst, AV.int IntKind.i64 x.snd.fst, AV.int IntKind.i64 x.snd.snd.fst, AV.int IntKind.i64 x.snd.snd.snd] })], df := [] })))
            (bK (decide (k = x.snd.fst))
              (bK (decide (holdQ d1.fst.snd d1.snd.fst d1.snd.snd.fst d1.snd.snd.snd < holdQ d0.fst.snd d0.snd.fst d0.snd.snd.fst d0.snd.snd.snd)) (some (Sum.inr (Ex.ret, { fr := [(12, AV.bool false), (13, AV.slc lx (List.map (mkV true Lease_tfs) l)), (14, AV.ptr 224 0 0 0), (15, AV.slc yx (List.map (mkV true Lease_tfs) y)), (16, AV.int IntKind.i64 t), (17, AV.int IntKind.i64 i)], bs := [(224, { v := 0, k := BK.box, fz := false, sz := 0, es := [AV.int IntKind.i64 x.fst, AV.int IntKind.i64 x.snd.fst, AV.int IntKind.i64 x.snd.snd.fst, AV.int IntKind.i64 x.snd.snd.snd] })], df := [] })))
                (bK (decide (t < x.snd.snd.snd)) (bK (decide (holdQ d1.fst.snd d1.snd.fst d1.snd.snd.fst d1.snd.snd.snd < x.snd.snd.fst)) (some (Sum.inr (Ex.ret, { fr := [(12, AV.bool false), (13, AV.slc lx (List.map (mkV true Lease_tfs) l)), (14, AV.ptr 224 0 0 0), (15, AV.slc yx (List.map (mkV true Lease_tfs) y)), (16, AV.int IntKind.i64 t), (17, AV.int IntKind.i64 i)], bs := [(224, { v := 0, k := BK.box, fz := false, sz := 0, es := [AV.int IntKind.i64 x.fst, AV.int IntKind.i64 x.snd.fst, AV.int IntKind.i64 x.snd.snd.fst, AV.int IntKind.i64 x.snd.snd.snd] })], df := [] }))) (some (Sum.inl { fr := [(13, AV.slc lx (List.map (mkV true Lease_tfs) l)), (14, AV.ptr 224 0 0 0), (15, AV.slc yx (List.map (mkV true Lease_tfs) y)), (16, AV.int IntKind.i64 t), (17, AV.int IntKind.i64 i), (18, AV.int IntKind.i64 (IntKind.i64.wrap (k + 1)))], bs := [(224, { v := 0, k := BK.box, fz := false, sz := 0, es := [AV.int IntKind.i64 x.fst, AV.int IntKind.i64 x.snd.fst, AV.int IntKind.i64 x.snd.snd.fst, AV.int IntKind.i64 x.snd.snd.snd] })], df := [] })))
                  (some (Sum.inl { fr := [(13, AV.slc lx (List.map (mkV true Lease_tfs) l)), (14, AV.ptr 224 0 0 0), (15, AV.slc yx (List.map (mkV true Lease_tfs) y)), (16, AV.int IntKind.i64 t), (17, AV.int IntKind.i64 i), (18, AV.int IntKind.i64 (IntKind.i64.wrap (k + 1)))], bs := [(224, { v := 0, k := BK.box, fz := false, sz := 0, es := [AV.int IntKind.i64 x.fst, AV.int IntKind.i64 x.snd.fst, AV.int IntKind.i64 x.snd.snd.fst, AV.int IntKind.i64 x.snd.snd.snd] })], df := [] }))))
              (some (Sum.inl { fr := [(13, AV.slc lx (List.map (mkV true Lease_tfs) l)), (14, AV.ptr 224 0 0 0), (15, AV.slc yx (List.map (mkV true Lease_tfs) y)), (16, AV.int IntKind.i64 t), (17, AV.int IntKind.i64 i), (18, AV.int IntKind.i64 (IntKind.i64.wrap (k + 1)))], bs := [(224, { v := 0, k := BK.box, fz := false, sz := 0, es := [AV.int IntKind.i64 x.fst, AV.int IntKind.i64 x.snd.fst, AV.int IntKind.i64 x.snd.snd.fst, AV.int IntKind.i64 x.snd.snd.snd] })], df := [] }))))
          (bK (decide (k = x.snd.fst))
            (bK (decide (holdQ d1.fst.snd d1.snd.fst d1.snd.snd.fst d1.snd.snd.snd < holdQ d0.fst.snd d0.snd.fst d0.snd.snd.fst d0.snd.snd.snd)) (some (Sum.inr (Ex.ret, { fr := [(12, AV.bool false), (13, AV.slc lx (List.map (mkV true Lease_tfs) l)), (14, AV.ptr 224 0 0 0), (15, AV.slc yx (List.map (mkV true Lease_tfs) y)), (16, AV.int IntKind.i64 t), (17, AV.int IntKind.i64 i)], bs := [(224, { v := 0, k := BK.box, fz := false, sz := 0, es := [AV.int IntKind.i64 x.fst, AV.int IntKind.i64 x.snd.fst, AV.int IntKind.i64 x.snd.snd.fst, AV.int IntKind.i64 x.snd.snd.snd] })], df := [] })))
              (bK (decide (t < x.snd.snd.snd)) (bK (decide (holdQ d1.fst.snd d1.snd.fst d1.snd.snd.fst d1.snd.snd.snd < x.snd.snd.fst)) (some (Sum.inr (Ex.ret, { fr := [(12, AV.bool false), (13, AV.slc lx (List.map (mkV true Lease_tfs) l)), (14, AV.ptr 224 0 0 0), (15, AV.slc yx (List.map (mkV true Lease_tfs) y)), (16, AV.int IntKind.i64 t), (17, AV.int IntKind.i64 i)], bs := [(224, { v := 0, k := BK.box, fz := false, sz := 0, es := [AV.int IntKind.i64 x.fst, AV.int IntKind.i64 x.snd.fst, AV.int IntKind.i64 x.snd.snd.fst, AV.int IntKind.i64 x.snd.snd.snd] })], df := [] }))) (some (Sum.inl { fr := [(13, AV.slc lx (List.map (mkV true Lease_tfs) l)), (14, AV.ptr 224 0 0 0), (15, AV.slc yx (List.map (mkV true Lease_tfs) y)), (16, AV.int IntKind.i64 t), (17, AV.int IntKind.i64 i), (18, AV.int IntKind.i64 (IntKind.i64.wrap (k + 1)))], bs := [(224, { v := 0, k := BK.box, fz := false, sz := 0, es := [AV.int IntKind.i64 x.fst, AV.int IntKind.i64 x.snd.fst, AV.int IntKind.i64 x.snd.snd.fst, AV.int IntKind.i64 x.snd.snd.snd] })], df := [] })))
                (some (Sum.inl { fr := [(13, AV.slc lx (List.map (mkV true Lease_tfs) l)), (14, AV.ptr 224 0 0 0), (15, AV.slc yx (List.map (mkV true Lease_tfs) y)), (16, AV.int IntKind.i64 t), (17, AV.int IntKind.i64 i), (18, AV.int IntKind.i64 (IntKind.i64.wrap (k + 1)))], bs := [(224, { v := 0, k := BK.box, fz := false, sz := 0, es := [AV.int IntKind.i64 x.fst, AV.int IntKind.i64 x.snd.fst, AV.int IntKind.i64 x.snd.snd.fst, AV.int IntKind.i64 x.snd.snd.snd] })], df := [] }))))
            (some (Sum.inl { fr := [(13, AV.slc lx (List.map (mkV true Lease_tfs) l)), (14, AV.ptr 224 0 0 0), (15, AV.slc yx (List.map (mkV true Lease_tfs) y)), (16, AV.int IntKind.i64 t), (17, AV.int IntKind.i64 i), (18, AV.int IntKind.i64 (IntKind.i64.wrap (k + 1)))], bs := [(224, { v := 0, k := BK.box, fz := false, sz := 0, es := [AV.int IntKind.i64 x.fst, AV.int IntKind.i64 x.snd.fst, AV.int IntKind.i64 x.snd.snd.fst, AV.int IntKind.i64 x.snd.snd.snd] })], df := [] }))))
        (bK (!decide (holdQ d1.fst.snd d1.snd.fst d1.snd.snd.fst d1.snd.snd.snd = holdQ d0.fst.snd d0.snd.fst d0.snd.snd.fst d0.snd.snd.snd)) (some (Sum.inr (Ex.ret, { fr := [(12, AV.bool false), (13, AV.slc lx (List.map (mkV true Lease_tfs) l)), (14, AV.ptr 224 0 0 0), (15, AV.slc yx (List.map (mkV true Lease_tfs) y)), (16, AV.int IntKind.i64 t), (17, AV.int IntKind.i64 i)], bs := [(224, { v := 0, k := BK.box, fz := false, sz := 0, es := [AV.int IntKind.i64 x.fst, AV.int IntKind.i64 x.snd.fst, AV.int IntKind.i64 x.snd.snd.fst, AV.int IntKind.i64 x.snd.snd.snd] })], df := [] }))) (some (Sum.inl { fr := [(13, AV.slc lx (List.map (mkV true Lease_tfs) l)), (14, AV.ptr 224 0 0 0), (15, AV.slc yx (List.map (mkV true Lease_tfs) y)), (16, AV.int IntKind.i64 t), (17, AV.int IntKind.i64 i), (18, AV.int IntKind.i64 (IntKind.i64.wrap (k + 1)))], bs := [(224, { v := 0, k := BK.box, fz := false, sz := 0, es := [AV.int IntKind.i64 x.fst, AV.int IntKind.i64 x.snd.fst, AV.int IntKind.i64 x.snd.snd.fst, AV.int IntKind.i64 x.snd.snd.snd] })], df := [] }))))
  (some (Sum.inr (Ex.exit 2, { fr := [(13, AV.slc lx (List.map (mkV true Lease_tfs) l)), (14, AV.ptr 224 0 0 0), (15, AV.slc yx (List.map (mkV true Lease_tfs) y)), (16, AV.int IntKind.i64 t), (17, AV.int IntKind.i64 i)], bs := [(224, { v := 0, k := BK.box, fz := false, sz := 0, es := [AV.int IntKind.i64 x.fst, AV.int IntKind.i64 x.snd.fst, AV.int IntKind.i64 x.snd.snd.fst, AV.int IntKind.i64 x.snd.snd.snd] })], df := [] })))
theorem gi_s_w (lx : Bool) (l : List Lease_T) (x : Lease_T) (yx : Bool) (y : List Lease_T) (t : Int) (i : Int) (k : Int) : gi_s lx l x yx y t i k = gi_s_r lx l x yx y t i k := by kernel_rfl

def GOk (l : List Lease_T) (x : Lease_T) (y : List Lease_T) : Prop := (LInv l ∧ okE x = true ∧ y = granQ l x) ∧ l.length ≤ 1000
theorem gl7 : (loopsOf 0 (codeOf Try.prog 7)).map (·.1) = [0, 2] := by kernel_rfl
theorem go7 : OneLoops Try.prog 7 := by unfold OneLoops; rw [gl7]; decide
theorem ga70 : At 0 (codeOf Try.prog 7) 0 (.loop (bodyAt Try.prog 7 0)) := at_body go7 (by rw [gl7]; decide)
theorem ga72 : At 0 (codeOf Try.prog 7) 2 (.loop (bodyAt Try.prog 7 2)) := at_body go7 (by rw [gl7]; decide)
theorem maxI_le (a b : Int) : a ≤ maxI a b ∧ b ≤ maxI a b := by
  unfold maxI
  split <;> omega
theorem grow_fact {l : List Lease_T} (h : LInv l) {x : Lease_T} (hx : okE x = true) (t i k : Int) : (x.1 = i ∧ x.2.1 = k → holdQ l t i k ≤ holdQ (granQ l x) t i k ∧ (t < x.2.2.2 → x.2.2.1 ≤ holdQ (granQ l x) t i k)) ∧ (¬ (x.1 = i ∧ x.2.1 = k) → holdQ (granQ l x) t i k = holdQ l t i k) := by
  rw [hold_gran h.srt]
  refine ⟨fun e => ?_, fun e => by rw [if_neg e]⟩
  rw [if_pos e]
  have hx' := okE_iff.1 hx
  by_cases hw : ∃ w ∈ l, sameK w x
  · obtain ⟨w, hw, hs⟩ := hw
    have hu : upQ l x = (x.1, x.2.1, maxI x.2.2.1 w.2.2.1, maxI x.2.2.2 w.2.2.2) := upN_mem h.srt hw hs
    rw [(hold_mem h.srt hw (c := i) (f := k) ⟨hs.1.trans e.1, hs.2.trans e.2⟩ t).2.2, hu]
    have m1 := maxI_le x.2.2.1 w.2.2.1
    have m2 := maxI_le x.2.2.2 w.2.2.2
    have hw' := okE_iff.1 (h.ok w hw)
    unfold valF
    simp only
    refine ⟨?_, fun ht => ?_⟩
    · split <;> split <;> omega
    · rw [if_neg (by omega)]; omega
  · have hn : ∀ w ∈ l, ¬ sameK w x := fun w hm hs => hw ⟨w, hm, hs⟩
    have hu : upQ l x = x := upN_none hn
    rw [hu, (hold_none (fun w hm hk => hn w hm ⟨hk.1.trans e.1.symm, hk.2.trans e.2.symm⟩) t).2]
    unfold valF
    refine ⟨?_, fun ht => ?_⟩
    · split <;> omega
    · rw [if_neg (by omega)]; omega
theorem gi_e (lx : Bool) (l : List Lease_T) (x : Lease_T) (yx : Bool) (y : List Lease_T) (t i k : Int) (h : GOk l x y) (hk : k ≤ 3) (h1 : 1 ≤ k) : gi_s lx l x yx y t i k = some (.inl (gih lx l x yx y t i (k + 1))) := by
  obtain ⟨⟨h2, h3, h4⟩, h5⟩ := h
  obtain ⟨f1, f2⟩ := grow_fact h2 h3 t i k
  have hyl := (gran_len h2 h3).2
  rw [← h4] at f1 f2 hyl
  refine (gi_s_w lx l x yx y t i k).trans ?_
  unfold gi_s_r
  refine bK_tq (Q := fun z => z = _) (decide_eq_true (by omega)) ?_
  refine oK_fsq (Q := fun z => z = _) holdsS ((lx, l), t, i, k) (by show l.length ≤ 100000; omega) ?_
  refine oK_fsq (Q := fun z => z = _) holdsS ((yx, y), t, i, k) (by show y.length ≤ 100000; omega) ?_
  dsimp only
  rw [w64 (n := k + 1) (by omega) (by omega)]
  generalize holdQ l t i k = a at f1 f2
  generalize holdQ y t i k = b at f1 f2
  simp only [bK_if, decide_eq_true_eq, Bool.not_eq_true', decide_eq_false_iff_not]
  repeat' split
  all_goals first | rfl | (exfalso; omega)
theorem gi_run (lx : Bool) (l : List Lease_T) (x : Lease_T) (yx : Bool) (y : List Lease_T) (t i : Int) (h : GOk l x y) : ∀ (j : Nat) (k : Int), 1 ≤ k → k + j = 4 → ∀ (fu : Nat), j < fu → Runs' Try.prog cfg M3 7 2 fu (gih lx l x yx y t i k) (.exit 2, { fr := [(13, .slc lx (l.map (mkV true Lease_tfs))), (14, .ptr 224 0 0 0), (15, .slc yx (y.map (mkV true Lease_tfs))), (16, .int .i64 t), (17, .int .i64 i)], bs := [(224, boxB (Tu.mk Lease_tfs x))], df := [] })
  | 0, k, h1, hk, fu + 1, hf => by
    refine Runs'.done (lp := LP0) LPok.none ga72 ((gi_s_w lx l x yx y t i k).trans ?_)
    unfold gi_s_r
    rw [bK_neg (decide_eq_false (by omega))]
    rfl
  | j + 1, k, h1, hk, fu + 1, hf => Runs'.step (lp := LP0) LPok.none ga72 (gi_e lx l x yx y t i k h (by omega) h1) (gi_run lx l x yx y t i h j (k + 1) (by omega) (by omega) fu (by omega))
abbrev GiD : Type := (Bool × List Lease_T) × Lease_T × (Bool × List Lease_T) × Int × Int
def giHd (d : GiD) : St := gih d.1.1 d.1.2 d.2.1 d.2.2.1.1 d.2.2.1.2 d.2.2.2.1 d.2.2.2.2 1
theorem giHd_inj (d d' : GiD) (h : giHd d = giHd d') : d = d' := by
  obtain ⟨⟨lx, l⟩, x, ⟨yx, y⟩, t, i⟩ := d
  obtain ⟨⟨lx', l'⟩, x', ⟨yx', y'⟩, t', i'⟩ := d'
  simp only [giHd, gih, boxB, St.mk.injEq, List.cons.injEq, Prod.mk.injEq, AV.slc.injEq, AV.int.injEq, Blk.mk.injEq, and_true, true_and] at h
  obtain ⟨⟨⟨h1, h2⟩, ⟨h3, h4⟩, h5, h6⟩, h7⟩ := h
  rw [h1, map_inj (fs := Lease_tfs) rfl h2, h3, map_inj (fs := Lease_tfs) rfl h4, h5, h6, mk_inj (fs := Lease_tfs) rfl h7]
noncomputable def giL : LP := LP.of giHd (fun d => GOk d.1.2 d.2.1 d.2.2.1.2) fun d => .leaf (.exit 2, { fr := [(13, .slc d.1.1 (d.1.2.map (mkV true Lease_tfs))), (14, .ptr 224 0 0 0), (15, .slc d.2.2.1.1 (d.2.2.1.2.map (mkV true Lease_tfs))), (16, .int .i64 d.2.2.2.1), (17, .int .i64 d.2.2.2.2)], bs := [(224, boxB (Tu.mk Lease_tfs d.2.1))], df := [] })
noncomputable def giP : LPs := LPs.add LP0 7 2 giL
theorem giP_ok : LPok Try.prog cfg M3 giP 7 := LPok.addH LPok.none go7 (by
  rintro ⟨⟨lx, l⟩, x, ⟨yx, y⟩, t, i⟩ h
  exact gi_run lx l x yx y t i h 3 1 (by omega) (by omega) rounds (by simp only [rounds]; omega))
def goh (lx : Bool) (l : List Lease_T) (x : Lease_T) (yx : Bool) (y : List Lease_T) (t i : Int) : St := { fr := [(13, .slc lx (l.map (mkV true Lease_tfs))), (14, .ptr 224 0 0 0), (15, .slc yx (y.map (mkV true Lease_tfs))), (16, .int .i64 t), (17, .int .i64 i)], bs := [(224, boxB (Tu.mk Lease_tfs x))], df := [] }
noncomputable def go_s (lx : Bool) (l : List Lease_T) (x : Lease_T) (yx : Bool) (y : List Lease_T) (t i : Int) : Option (St ⊕ (Ex × St)) := stepK Try.prog cfg M3 giP 7 0 (goh lx l x yx y t i)
noncomputable def go_s_r (lx : Bool) (l : List Lease_T) (x : Lease_T) (yx : Bool) (y : List Lease_T) (t : Int) (i : Int) : Option (St ⊕ Ex × St) :=
  bK (decide (i ≤ 3)) (oK (giL.dec { fr := [(13, AV.slc lx (List.map (mkV true Lease_tfs) l)), (14, AV.ptr 224 0 0 0), (15, AV.slc yx (List.map (mkV true Lease_tfs) y)), (16, AV.int IntKind.i64 t), (17, AV.int IntKind.i64 i), (18, AV.int IntKind.i64 1)], bs := [(224, { v := 0, k := BK.box, fz := false, sz := 0, es := [AV.int IntKind.i64 x.fst, AV.int IntKind.i64 x.snd.fst, AV.int IntKind.i64 x.snd.snd.fst, AV.int IntKind.i64 x.snd.snd.snd] })], df := [] }) fun (d0 : (Bool × List (Int × Int × Int × Int)) × (Int × Int × Int × Int) × (Bool × List (Int × Int × Int × Int)) × Int × Int) => some (Sum.inl { fr := [(13, AV.slc d0.fst.fst (List.map (mkV true Lease_tfs) d0.fst.snd)), (14, AV.ptr 224 0 0 0), (15, AV.slc d0.snd.snd.fst.fst (List.map (mkV true Lease_tfs) d0.snd.snd.fst.snd)), (16, AV.int IntKind.i64 d0.snd.snd.snd.fst), (17, AV.int IntKind.i64 (IntKind.i64.wrap (d0.snd.snd.snd.snd + 1)))], bs := [(224, { v := 0, k := BK.box, fz := false, sz := 0, es := [AV.int IntKind.i64 d0.snd.fst.fst, AV.int IntKind.i64 d0.snd.fst.snd.fst, AV.int IntKind.i64 d0.snd.fst.snd.snd.fst, AV.int IntKind.i64 d0.snd.fst.snd.snd.snd] })], df := [] })) (some (Sum.inr (Ex.exit 0, { fr := [(13, AV.slc lx (List.map (mkV true Lease_tfs) l)), (15, AV.slc yx (List.map (mkV true Lease_tfs) y))], bs := [], df := [] })))
theorem go_s_w (lx : Bool) (l : List Lease_T) (x : Lease_T) (yx : Bool) (y : List Lease_T) (t : Int) (i : Int) : go_s lx l x yx y t i = go_s_r lx l x yx y t i := by kernel_rfl

theorem go_run (lx : Bool) (l : List Lease_T) (x : Lease_T) (yx : Bool) (y : List Lease_T) (t : Int) (h : GOk l x y) : ∀ (j : Nat) (i : Int), 1 ≤ i → i + j = 4 → ∀ (fu : Nat), j < fu → Runs' Try.prog cfg M3 7 0 fu (goh lx l x yx y t i) (.exit 0, { fr := [(13, .slc lx (l.map (mkV true Lease_tfs))), (15, .slc yx (y.map (mkV true Lease_tfs)))], bs := [], df := [] })
  | 0, i, h1, hk, fu + 1, hf => by
    refine Runs'.done (lp := giP) giP_ok ga70 ((go_s_w lx l x yx y t i).trans ?_)
    unfold go_s_r
    exact bK_neg (decide_eq_false (by omega))
  | j + 1, i, h1, hk, fu + 1, hf => by
    refine Runs'.step (lp := giP) giP_ok ga70 ((go_s_w lx l x yx y t i).trans ?_) (go_run lx l x yx y t h j (i + 1) (by omega) (by omega) fu (by omega))
    unfold go_s_r
    rw [bK_pos (decide_eq_true (by omega))]
    refine oK_lpq (Q := fun z => z = _) giHd_inj ((lx, l), x, (yx, y), t, i) h ?_
    dsimp only
    rw [w64 (by omega) (by omega)]
    rfl
def goHd (d : (Bool × List Lease_T) × Lease_T × (Bool × List Lease_T) × Int) : St := goh d.1.1 d.1.2 d.2.1 d.2.2.1.1 d.2.2.1.2 d.2.2.2 1
theorem goHd_inj (d d' : (Bool × List Lease_T) × Lease_T × (Bool × List Lease_T) × Int) (h : goHd d = goHd d') : d = d' := by
  obtain ⟨⟨lx, l⟩, x, ⟨yx, y⟩, t⟩ := d
  obtain ⟨⟨lx', l'⟩, x', ⟨yx', y'⟩, t'⟩ := d'
  simp only [goHd, goh, boxB, St.mk.injEq, List.cons.injEq, Prod.mk.injEq, AV.slc.injEq, AV.int.injEq, Blk.mk.injEq, and_true, true_and] at h
  obtain ⟨⟨⟨h1, h2⟩, ⟨h3, h4⟩, h5⟩, h7⟩ := h
  rw [h1, map_inj (fs := Lease_tfs) rfl h2, h3, map_inj (fs := Lease_tfs) rfl h4, h5, mk_inj (fs := Lease_tfs) rfl h7]
noncomputable def goL : LP := LP.of goHd (fun d => GOk d.1.2 d.2.1 d.2.2.1.2) fun d => .leaf (.exit 0, { fr := [(13, .slc d.1.1 (d.1.2.map (mkV true Lease_tfs))), (15, .slc d.2.2.1.1 (d.2.2.1.2.map (mkV true Lease_tfs)))], bs := [], df := [] })
noncomputable def goP : LPs := LPs.add giP 7 0 goL
theorem goP_ok : LPok Try.prog cfg M3 goP 7 := LPok.addH giP_ok go7 (by
  rintro ⟨⟨lx, l⟩, x, ⟨yx, y⟩, t⟩ h
  exact go_run lx l x yx y t h 3 1 (by omega) (by omega) rounds (by simp only [rounds]; omega))
abbrev leaseGrows_id : Nat := 7
abbrev leaseGrows_sh : Shp := [none, none, none, none, none, none]
abbrev leaseGrows_fs : List Lf := [.fl false [.fi .u8], .fi .u8, .fi .u8, .fi .u8, .fi .u8, .fi .u8]
abbrev leaseGrows_rsh : Shp := [none]
abbrev leaseGrows_rfs : List Lf := [.fb]
noncomputable def leaseGrows_r (picks_x : Bool) (picks : List Int) (c : Int) (f : Int) (m : Int) (until_ : Int) (now : Int) : Option Ret :=
  oK (begunS.dec [] []) fun (d0 : PUnit) =>
  bK (decide (40 < (↑(List.map (mkV false [Lf.fi IntKind.u8]) picks).length : Int))) (some { pan := false, res := AV.bool true, out := [], new := [] })
    (oK (leasS.dec [AV.ptr 1000000 0 0 0] [{ v := 0, k := BK.box, fz := false, sz := 0, es := [AV.slc picks_x (List.map (mkV false [Lf.fi IntKind.u8]) picks), AV.int IntKind.i64 0] }]) fun (d1 : ((Bool × List Int) × Int) × PUnit) =>
      oK (granS.dec [AV.slc (leaX true (numF d1.fst 8).snd) (List.map (mkV true Lease_tfs) (leaL [] (numF d1.fst 8).fst (numF d1.fst 8).snd)), AV.agg [AV.int IntKind.i64 (IntKind.i64.wrap (1 + IntKind.i64.wrap (c.tmod 3))), AV.int IntKind.i64 (IntKind.i64.wrap (1 + IntKind.i64.wrap (f.tmod 3))), AV.int IntKind.i64 (IntKind.i64.wrap (1 + IntKind.i64.wrap (m.tmod 2))), AV.int IntKind.i64 (IntKind.i64.wrap until_)]] []) fun (d2 : (Bool × List (Int × Int × Int × Int)) × Int × Int × Int × Int) =>
        oK (goL.dec { fr := [(13, AV.slc (leaX true (numF d1.fst 8).snd) (List.map (mkV true Lease_tfs) (leaL [] (numF d1.fst 8).fst (numF d1.fst 8).snd))), (14, AV.ptr 224 0 0 0), (15, AV.slc false (List.map (mkV true Lease_tfs) (granQ d2.fst.snd d2.snd))), (16, AV.int IntKind.i64 (IntKind.i64.wrap now)), (17, AV.int IntKind.i64 1)], bs := [(224, { v := 0, k := BK.box, fz := false, sz := 0, es := [AV.int IntKind.i64 (IntKind.i64.wrap (1 + IntKind.i64.wrap (c.tmod 3))), AV.int IntKind.i64 (IntKind.i64.wrap (1 + IntKind.i64.wrap (f.tmod 3))), AV.int IntKind.i64 (IntKind.i64.wrap (1 + IntKind.i64.wrap (m.tmod 2))), AV.int IntKind.i64 (IntKind.i64.wrap until_)] })], df := [] }) fun (d3 : (Bool × List (Int × Int × Int × Int)) × (Int × Int × Int × Int) × (Bool × List (Int × Int × Int × Int)) × Int) => oK (mayS.dec [AV.slc d3.snd.snd.fst.fst (List.map (mkV true Lease_tfs) d3.snd.snd.fst.snd)] []) fun (d4 : Bool × List (Int × Int × Int × Int)) => bK (mayQ d4.snd) (bK (decide ((↑(List.map (mkV true Lease_tfs) d3.fst.snd).length : Int) ≤ (↑(List.map (mkV true Lease_tfs) d3.snd.snd.fst.snd).length : Int))) (some { pan := false, res := AV.bool (decide ((↑(List.map (mkV true Lease_tfs) d3.snd.snd.fst.snd).length : Int) ≤ IntKind.i64.wrap ((↑(List.map (mkV true Lease_tfs) d3.fst.snd).length : Int) + 1))), out := [], new := [] }) (some { pan := false, res := AV.bool false, out := [], new := [] })) (some { pan := false, res := AV.bool false, out := [], new := [] }))
theorem leaseGrows_w (picks_x : Bool) (picks : List Int) (c : Int) (f : Int) (m : Int) (until_ : Int) (now : Int) : unitQ Try.prog cfg M3 goP true 7 (groupA leaseGrows_sh (Tu.mk leaseGrows_fs ((picks_x, picks), c, f, m, until_, now))) [] = leaseGrows_r picks_x picks c f m until_ now := by kernel_rfl

theorem tm_lt (c : Int) (n : Int) (h : 0 ≤ c ∧ c ≤ 255) (hn : 1 ≤ n ∧ n ≤ 255) : IntKind.i64.wrap (1 + IntKind.i64.wrap (c.tmod n)) = 1 + c.tmod n ∧ 0 ≤ c.tmod n ∧ c.tmod n < n := by
  have h1 := Int.tmod_nonneg n h.1
  have h2 := Int.tmod_lt_of_pos c (show 0 < n by omega)
  rw [w64 (n := c.tmod n) (by omega) (by omega), w64 (by omega) (by omega)]
  exact ⟨rfl, h1, h2⟩
theorem leaseGrows_yes (picks_x : Bool) (picks : List Int) (c : Int) (f : Int) (m : Int) (until_ : Int) (now : Int) (h : Tu.wf leaseGrows_fs ((picks_x, picks), c, f, m, until_, now)) : Yes (leaseGrows_r picks_x picks c f m until_ now) := by
  have hp := wf8 h.1.2
  have h1 : (0 : Int) ≤ c ∧ c ≤ 255 := h.2.1
  have h2 : (0 : Int) ≤ f ∧ f ≤ 255 := h.2.2.1
  have h3 : (0 : Int) ≤ m ∧ m ≤ 255 := h.2.2.2.1
  have h4 : (0 : Int) ≤ until_ ∧ until_ ≤ 255 := h.2.2.2.2.1
  have h5 : (0 : Int) ≤ now ∧ now ≤ 255 := h.2.2.2.2.2
  unfold leaseGrows_r
  refine oK_fsq (Q := Yes) begunS () trivial ?_
  refine bK_iq (Q := Yes) (fun _ => yes_leaf) (fun c1 => ?_)
  rw [List.length_map] at c1
  have hpk : pkOk ((picks_x, picks), 0) := ⟨by simp, by simp, by show picks.length ≤ 2 ^ 62; omega, hp⟩
  refine oK_msq (Q := Yes) leasS ((picks_x, picks), (0 : Int)) () hpk ?_
  dsimp only
  have b8 := numF_lt hpk (m := 8) (by omega)
  obtain ⟨hi, hl⟩ := lea_inv (numF ((picks_x, picks), 0) 8).2.toNat (numF ((picks_x, picks), 0) 8).1 [] (numF_ok hpk) LInv.nil
  have el : leaL [] (numF ((picks_x, picks), 0) 8).1 (numF ((picks_x, picks), 0) 8).2 = (leaN (numF ((picks_x, picks), 0) 8).2.toNat (numF ((picks_x, picks), 0) 8).1 []).2 := rfl
  rw [← el] at hi hl
  generalize leaL [] (numF ((picks_x, picks), 0) 8).1 (numF ((picks_x, picks), 0) 8).2 = l at hi hl
  generalize leaX true (numF ((picks_x, picks), 0) 8).2 = lx
  have hll : l.length ≤ 1000 := by simp only [List.length_nil] at hl; omega
  obtain ⟨e1, e2, e3⟩ := tm_lt c 3 h1 (by omega)
  obtain ⟨e4, e5, e6⟩ := tm_lt f 3 h2 (by omega)
  obtain ⟨e7, e8, e9⟩ := tm_lt m 2 h3 (by omega)
  rw [e1, e4, e7, w64 (n := until_) (by omega) (by omega)]
  have hx : okE (1 + c.tmod 3, 1 + f.tmod 3, 1 + m.tmod 2, until_) = true := okE_iff.2 ⟨⟨by show 1 ≤ 1 + c.tmod 3; omega, by show 1 + c.tmod 3 ≤ 3; omega⟩, ⟨by show 1 ≤ 1 + f.tmod 3; omega, by show 1 + f.tmod 3 ≤ 6; omega⟩, ⟨by show 1 ≤ 1 + m.tmod 2; omega, by show 1 + m.tmod 2 ≤ 2; omega⟩, h4.1⟩
  have hy := gran_len hi hx
  refine oK_fsq (Q := Yes) granS ((lx, l), (1 + c.tmod 3, 1 + f.tmod 3, 1 + m.tmod 2, until_)) (by show l.length ≤ 100000; omega) ?_
  dsimp only
  refine oK_lpq (Q := Yes) goHd_inj ((lx, l), (1 + c.tmod 3, 1 + f.tmod 3, 1 + m.tmod 2, until_), (false, granQ l (1 + c.tmod 3, 1 + f.tmod 3, 1 + m.tmod 2, until_)), IntKind.i64.wrap now) ⟨⟨hi, hx, rfl⟩, hll⟩ ?_
  dsimp only
  have hm := (gran_inv hi hx).may
  generalize granQ l (1 + c.tmod 3, 1 + f.tmod 3, 1 + m.tmod 2, until_) = y at hy hm
  refine oK_fsq (Q := Yes) mayS (false, y) (by show y.length ≤ 100000; omega) ?_
  refine bK_tq (Q := Yes) hm ?_
  simp only [List.length_map]
  refine bK_tq (Q := Yes) (decide_eq_true (by omega)) ?_
  rw [w64 (by omega) (by omega)]
  exact yes_of (decide_eq_true (by omega))

end Go.Proofs.Ytbifdenekkijfaa
