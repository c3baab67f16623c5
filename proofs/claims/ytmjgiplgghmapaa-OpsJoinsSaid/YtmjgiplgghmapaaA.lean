/- A part of the proof: contracts of functions. -/
import Derived.Test.YtmjgiplgghmapaaX
import Derived.Test.YtmjgiplgghmapaaAbAny

set_option linter.unusedVariables false
set_option linter.unusedSimpArgs false
set_option maxRecDepth 100000
namespace Go.Proofs.Ytmjgiplgghmapaa
open Go Go.Ab
set_option maxHeartbeats 8000000
theorem oK_lpf {R D : Type} {hd : D → St} {pre : D → Prop} {out : D → Alt (Ex × St)} (hinj : ∀ d d', hd d = hd d' → d = d') (d : D) (hp : pre d) {st : St} (e : st = hd d) {k : D → Option R} {Q : Option R → Prop} (hz : Q (k d)) : Q (oK ((LP.of hd pre out).dec st) k) := by
  rw [e]; exact oK_lpq hinj d hp hz
def gnh0 (x : Bool) (b : List Int) (m n i : Int) : St := { fr := [(0, .ptr 1000000 0 0 0), (2, .int .i64 n), (6, .slc true []), (7, .int .i64 m), (8, .int .i64 i)], bs := [(1000000, boxB [.slc x (b.map (mkV false [.fi .u8]))])], df := [] }
noncomputable def gn_s0 (x : Bool) (b : List Int) (m n i : Int) : Option (St ⊕ (Ex × St)) := stepK Try.prog cfg PK9 LP0 49 0 (gnh0 x b m n i)
noncomputable def gn_s0_r (x : Bool) (b : List Int) (m : Int) (n : Int) (i : Int) : Option (St ⊕ Ex × St) :=
  bK (decide (i < m))
  (oK (takeBS.dec [AV.slc x (List.map (mkV false [Lf.fi IntKind.u8]) b), AV.int IntKind.i64 n] []) fun (d0 : (Bool × List Int) × Int) =>
    bK (!(takeF d0).snd) (some (Sum.inr (Ex.pan (AV.iface 93 (AV.agg [])), { fr := [(12, AV.int IntKind.i64 n), (11, AV.ptr 1000000 0 0 0), (10, AV.slc true []), (9, AV.bool true), (0, AV.ptr 1000000 0 0 0), (2, AV.int IntKind.i64 n), (6, AV.slc true []), (7, AV.int IntKind.i64 m), (8, AV.int IntKind.i64 i)], bs := [(1000000, { v := 0, k := BK.box, fz := false, sz := 0, es := [AV.slc x (List.map (mkV false [Lf.fi IntKind.u8]) b)] }), (1000000, { v := 0, k := BK.box, fz := false, sz := 0, es := [AV.slc x (List.map (mkV false [Lf.fi IntKind.u8]) b)] })], df := [] })))
      (bK (decide (0 ≤ n)) (bK ((List.map (mkV false [Lf.fi IntKind.u8]) b).all fun (y : AV) => decide (y.cells.length = 1)) (bK (decide (n.toNat ≤ (List.map (mkV false [Lf.fi IntKind.u8]) b).length ∧ (List.map (mkV false [Lf.fi IntKind.u8]) b).length ≤ (List.map (mkV false [Lf.fi IntKind.u8]) b).length)) (some (Sum.inl { fr := [(0, AV.ptr 1000000 0 0 0), (2, AV.int IntKind.i64 n), (6, AV.sref 240 0 0 1), (7, AV.int IntKind.i64 m), (8, AV.int IntKind.i64 (IntKind.i64.wrap (i + 1)))], bs := [(240, { v := 0, k := BK.row, fz := false, sz := 1, es := [AV.int IntKind.i64 (takeF d0).fst] }), (1000000, { v := 0, k := BK.box, fz := false, sz := 0, es := [AV.slc (x && decide ((List.map (mkV false [Lf.fi IntKind.u8]) b).length = (List.map (mkV false [Lf.fi IntKind.u8]) b).length)) (List.take ((List.map (mkV false [Lf.fi IntKind.u8]) b).length - n.toNat) (List.drop n.toNat (List.map (mkV false [Lf.fi IntKind.u8]) b)))] })], df := [] })) none) none) none))
  (some (Sum.inr (Ex.exit 0, { fr := [(6, AV.slc true [])], bs := [(1000000, { v := 0, k := BK.box, fz := false, sz := 0, es := [AV.slc x (List.map (mkV false [Lf.fi IntKind.u8]) b)] })], df := [] })))
theorem gn_s0_w (x : Bool) (b : List Int) (m : Int) (n : Int) (i : Int) : gn_s0 x b m n i = gn_s0_r x b m n i := by kernel_rfl

def gnh1 (x : Bool) (b : List Int) (m n i : Int) (l : List Int) : St := { fr := [(0, .ptr 1000000 0 0 0), (2, .int .i64 n), (6, .sref 240 0 0 (l.map (mkV false [.fi .i64])).length), (7, .int .i64 m), (8, .int .i64 i)], bs := [(240, { v := 0, k := .row, fz := false, sz := 1, es := l.map (mkV false [.fi .i64]) }), (1000000, boxB [.slc x (b.map (mkV false [.fi .u8]))])], df := [] }
noncomputable def gn_s1 (x : Bool) (b : List Int) (m n i : Int) (l : List Int) : Option (St ⊕ (Ex × St)) := stepK Try.prog cfg PK9 LP0 49 0 (gnh1 x b m n i l)
noncomputable def gn_s1_r (x : Bool) (b : List Int) (m : Int) (n : Int) (i : Int) (l : List Int) : Option (St ⊕ Ex × St) :=
  bK (decide (i < m))
  (oK (takeBS.dec [AV.slc x (List.map (mkV false [Lf.fi IntKind.u8]) b), AV.int IntKind.i64 n] []) fun (d0 : (Bool × List Int) × Int) =>
    bK (!(takeF d0).snd) (some (Sum.inr (Ex.pan (AV.iface 93 (AV.agg [])), { fr := [(12, AV.int IntKind.i64 n), (11, AV.ptr 1000000 0 0 0), (10, AV.sref 240 0 0 (List.map (mkV false [Lf.fi IntKind.i64]) l).length), (9, AV.bool true), (0, AV.ptr 1000000 0 0 0), (2, AV.int IntKind.i64 n), (6, AV.sref 240 0 0 (List.map (mkV false [Lf.fi IntKind.i64]) l).length), (7, AV.int IntKind.i64 m), (8, AV.int IntKind.i64 i)], bs := [(1000000, { v := 0, k := BK.box, fz := false, sz := 0, es := [AV.slc x (List.map (mkV false [Lf.fi IntKind.u8]) b)] }), (240, { v := 0, k := BK.row, fz := false, sz := 1, es := List.map (mkV false [Lf.fi IntKind.i64]) l }), (1000000, { v := 0, k := BK.box, fz := false, sz := 0, es := [AV.slc x (List.map (mkV false [Lf.fi IntKind.u8]) b)] })], df := [] })))
      (bK (decide (0 ≤ n)) (bK ((List.map (mkV false [Lf.fi IntKind.u8]) b).all fun (y : AV) => decide (y.cells.length = 1)) (bK (decide (n.toNat ≤ (List.map (mkV false [Lf.fi IntKind.u8]) b).length ∧ (List.map (mkV false [Lf.fi IntKind.u8]) b).length ≤ (List.map (mkV false [Lf.fi IntKind.u8]) b).length)) (bK (decide (0 + (List.map (mkV false [Lf.fi IntKind.i64]) l).length ≤ (List.map (mkV false [Lf.fi IntKind.i64]) l).length)) (bK (decide (0 = 0 ∧ (List.map (mkV false [Lf.fi IntKind.i64]) l).length = (List.map (mkV false [Lf.fi IntKind.i64]) l).length) && bytesFit Try.prog 3 ((List.map (mkV false [Lf.fi IntKind.i64]) l).length + 1)) (some (Sum.inl { fr := [(0, AV.ptr 1000000 0 0 0), (2, AV.int IntKind.i64 n), (6, AV.sref 240 0 0 ((List.map (mkV false [Lf.fi IntKind.i64]) l).length + 1)), (7, AV.int IntKind.i64 m), (8, AV.int IntKind.i64 (IntKind.i64.wrap (i + 1)))], bs := [(240, { v := 0, k := BK.row, fz := false, sz := 1, es := List.take (List.map (mkV false [Lf.fi IntKind.i64]) l).length (List.map (mkV false [Lf.fi IntKind.i64]) l) ++ [AV.int IntKind.i64 (takeF d0).fst] }), (1000000, { v := 0, k := BK.box, fz := false, sz := 0, es := [AV.slc (x && decide ((List.map (mkV false [Lf.fi IntKind.u8]) b).length = (List.map (mkV false [Lf.fi IntKind.u8]) b).length)) (List.take ((List.map (mkV false [Lf.fi IntKind.u8]) b).length - n.toNat) (List.drop n.toNat (List.map (mkV false [Lf.fi IntKind.u8]) b)))] })], df := [] })) none) none) none) none) none))
  (some (Sum.inr (Ex.exit 0, { fr := [(6, AV.sref 240 0 0 (List.map (mkV false [Lf.fi IntKind.i64]) l).length)], bs := [(240, { v := 0, k := BK.row, fz := false, sz := 1, es := List.map (mkV false [Lf.fi IntKind.i64]) l }), (1000000, { v := 0, k := BK.box, fz := false, sz := 0, es := [AV.slc x (List.map (mkV false [Lf.fi IntKind.u8]) b)] })], df := [] })))
theorem gn_s1_w (x : Bool) (b : List Int) (m : Int) (n : Int) (i : Int) (l : List Int) : gn_s1 x b m n i l = gn_s1_r x b m n i l := by kernel_rfl

/-- So many numbers of n bytes: those that are read, what is left, whether all were there. -/
def gnF (n : Nat) : Nat → List Int → List Int × List Int × Bool
  | 0, b => ([], b, true)
  | k + 1, b => if n ≤ b.length then (tkF (b.take n) :: (gnF n k (b.drop n)).1, (gnF n k (b.drop n)).2) else ([], b, false)
theorem gnF_len (n : Nat) : ∀ (k : Nat) (b : List Int), (gnF n k b).1.length ≤ k
  | 0, b => Nat.le_refl _
  | k + 1, b => by
    unfold gnF
    split
    · have := gnF_len n k (b.drop n); simp only [List.length_cons]; omega
    · exact Nat.zero_le _
theorem gnF_rest (n : Nat) : ∀ (k : Nat) (b : List Int), ∃ j, (gnF n k b).2.1 = b.drop j
  | 0, b => ⟨0, rfl⟩
  | k + 1, b => by
    unfold gnF
    split
    · obtain ⟨j, hj⟩ := gnF_rest n k (b.drop n)
      exact ⟨n + j, by show (gnF n k (b.drop n)).2.1 = _; rw [hj, List.drop_drop]⟩
    · exact ⟨0, rfl⟩
theorem byt_drop {b : List Int} (h : byt b) (k : Nat) : byt (b.drop k) := fun v hv => h v (List.mem_of_mem_drop hv)
theorem cutB (b : List Int) (n : Nat) : List.take ((b.map (mkV false [.fi .u8])).length - (n : Int).toNat) (List.drop (n : Int).toNat (b.map (mkV false [.fi .u8]))) = (b.drop n).map (mkV false [.fi .u8]) := by
  rw [Int.toNat_natCast, List.take_of_length_le (by simp), List.map_drop]
theorem flX (x : Bool) (k : Nat) : (x && decide (k = k)) = x := by simp
def gnh (x : Bool) (b : List Int) (m n i : Int) : List Int → St
  | [] => gnh0 x b m n i
  | y :: t => gnh1 x b m n i (y :: t)
def gnx (x : Bool) (b : List Int) : List Int → St
  | [] => { fr := [(6, .slc true [])], bs := [(1000000, boxB [.slc x (b.map (mkV false [.fi .u8]))])], df := [] }
  | y :: t => { fr := [(6, .sref 240 0 0 ((y :: t).map (mkV false [.fi .i64])).length)], bs := [(240, { v := 0, k := .row, fz := false, sz := 1, es := (y :: t).map (mkV false [.fi .i64]) }), (1000000, boxB [.slc x (b.map (mkV false [.fi .u8]))])], df := [] }
def gnp (x : Bool) (b : List Int) (m n i : Int) : List Int → St
  | [] => { fr := [(12, .int .i64 n), (11, .ptr 1000000 0 0 0), (10, .slc true []), (9, .bool true), (0, .ptr 1000000 0 0 0), (2, .int .i64 n), (6, .slc true []), (7, .int .i64 m), (8, .int .i64 i)], bs := [(1000000, boxB [.slc x (b.map (mkV false [.fi .u8]))]), (1000000, boxB [.slc x (b.map (mkV false [.fi .u8]))])], df := [] }
  | y :: t => { fr := [(12, .int .i64 n), (11, .ptr 1000000 0 0 0), (10, .sref 240 0 0 ((y :: t).map (mkV false [.fi .i64])).length), (9, .bool true), (0, .ptr 1000000 0 0 0), (2, .int .i64 n), (6, .sref 240 0 0 ((y :: t).map (mkV false [.fi .i64])).length), (7, .int .i64 m), (8, .int .i64 i)], bs := [(1000000, boxB [.slc x (b.map (mkV false [.fi .u8]))]), (240, { v := 0, k := .row, fz := false, sz := 1, es := (y :: t).map (mkV false [.fi .i64]) }), (1000000, boxB [.slc x (b.map (mkV false [.fi .u8]))])], df := [] }
theorem by3 : Try.prog.bytesOf 3 = 8 := by kernel_rfl
theorem fit3 {n : Nat} (h : n ≤ 1000000) : bytesFit Try.prog 3 n = true := by
  simp only [bytesFit, by3, decide_eq_true_eq]; omega
theorem gn_e (x : Bool) (b : List Int) (m n i : Nat) (l : List Int) (hi : i < m) (hm : m ≤ 1000) (hn : 1 ≤ n ∧ n ≤ 7) (hb : byt b) (hl : l.length ≤ 5000) : stepK Try.prog cfg PK9 LP0 49 0 (gnh x b m n i l) = if n ≤ b.length then some (.inl (gnh x (b.drop n) m n ((i + 1 : Nat) : Int) (l ++ [tkF (b.take n)]))) else some (.inr (.pan (.iface 93 (.agg [])), gnp x b m n i l)) := by
  have ei : IntKind.i64.wrap ((i : Int) + 1) = ((i + 1 : Nat) : Int) := by rw [w64 (by omega) (by omega)]; omega
  have et : takeF ((x, b), (n : Int)) = takeL b n := rfl
  have kn : (n : Int).toNat = n := Int.toNat_natCast n
  cases l with
  | nil =>
    refine (gn_s0_w x b m n i).trans ?_
    unfold gn_s0_r
    refine bK_tq (Q := fun z => z = _) (decide_eq_true (by omega)) ?_
    refine oK_fsq (Q := fun z => z = _) takeBS ((x, b), (n : Int)) hb ?_
    rw [et]
    by_cases h : n ≤ b.length
    · rw [if_pos h, takeL_yes ⟨by omega, by omega, by omega⟩, ei, cutB, flX, kn]
      exact bK_fq (Q := fun z => z = _) rfl (bK_tq (Q := fun z => z = _) (decide_eq_true (by omega)) (bK_tq (Q := fun z => z = _) (allB b) (bK_tq (Q := fun z => z = _) (by simp; omega) rfl)))
    · rw [if_neg h, takeL_no (by omega)]
      exact bK_tq (Q := fun z => z = _) rfl rfl
  | cons y t =>
    refine (gn_s1_w x b m n i (y :: t)).trans ?_
    unfold gn_s1_r
    refine bK_tq (Q := fun z => z = _) (decide_eq_true (by omega)) ?_
    refine oK_fsq (Q := fun z => z = _) takeBS ((x, b), (n : Int)) hb ?_
    rw [et]
    by_cases h : n ≤ b.length
    · rw [if_pos h, takeL_yes ⟨by omega, by omega, by omega⟩, ei, cutB, flX, kn]
      have e1 : List.take ((y :: t).map (mkV false [.fi .i64])).length ((y :: t).map (mkV false [.fi .i64])) ++ [.int .i64 (tkF (b.take n))] = ((y :: t) ++ [tkF (b.take n)]).map (mkV false [.fi .i64]) := by rw [List.take_length, List.map_append]; rfl
      have e2 : ((y :: t).map (mkV false [.fi .i64])).length + 1 = (((y :: t) ++ [tkF (b.take n)]).map (mkV false [.fi .i64])).length := by simp
      refine bK_fq (Q := fun z => z = _) rfl (bK_tq (Q := fun z => z = _) (decide_eq_true (by omega)) (bK_tq (Q := fun z => z = _) (allB b) (bK_tq (Q := fun z => z = _) (by simp; omega) (bK_tq (Q := fun z => z = _) (by simp) (bK_tq (Q := fun z => z = _) (by rw [fit3 (by simp only [List.length_map]; omega)]; simp) ?_)))))
      dsimp only
      rw [e1, e2]
      rfl
    · rw [if_neg h, takeL_no (by omega)]
      exact bK_tq (Q := fun z => z = _) rfl rfl
def gnE (x : Bool) (m n i : Int) (l : List Int) (r : List Int × List Int × Bool) : Ex × St := if r.2.2 = true then (.exit 0, gnx x r.2.1 (l ++ r.1)) else (.pan (.iface 93 (.agg [])), gnp x r.2.1 m n (i + (r.1.length : Int)) (l ++ r.1))
theorem gl49 : (loopsOf 0 (codeOf Try.prog 49)).map (·.1) = [0] := by kernel_rfl
theorem go49 : OneLoops Try.prog 49 := by unfold OneLoops; rw [gl49]; decide
theorem ga49 : At 0 (codeOf Try.prog 49) 0 (.loop (bodyAt Try.prog 49 0)) := at_body go49 (by rw [gl49]; decide)
theorem gn_run (x : Bool) (m n : Nat) (hm : m ≤ 1000) (hn : 1 ≤ n ∧ n ≤ 7) : ∀ (k i : Nat) (b l : List Int), i + k = m → byt b → l.length + k ≤ 5000 → ∀ (fu : Nat), k < fu → Runs' Try.prog cfg PK9 49 0 fu (gnh x b m n i l) (gnE x m n i l (gnF n k b))
  | 0, i, b, l, hi, hb, hl, fu + 1, hf => by
    have e : gnE x m n i l (gnF n 0 b) = (.exit 0, gnx x b l) := by
      show (Ex.exit 0, gnx x b (l ++ [])) = _
      rw [List.append_nil]
    rw [e]
    cases l with
    | nil =>
      refine Runs'.done (lp := LP0) LPok.none ga49 ((gn_s0_w x b m n i).trans ?_)
      unfold gn_s0_r
      exact bK_neg (decide_eq_false (by omega))
    | cons y t =>
      refine Runs'.done (lp := LP0) LPok.none ga49 ((gn_s1_w x b m n i (y :: t)).trans ?_)
      unfold gn_s1_r
      exact bK_neg (decide_eq_false (by omega))
  | k + 1, i, b, l, hi, hb, hl, fu + 1, hf => by
    have he := gn_e x b m n i l (by omega) hm hn hb (by omega)
    by_cases h : n ≤ b.length
    · rw [if_pos h] at he
      have hr := gn_run x m n hm hn k (i + 1) (b.drop n) (l ++ [tkF (b.take n)]) (by omega) (byt_drop hb n) (by rw [List.length_append, List.length_singleton]; omega) fu (by omega)
      refine Runs'.step (lp := LP0) LPok.none ga49 he (cast ?_ hr)
      congr 1
      have e : gnF n (k + 1) b = (tkF (b.take n) :: (gnF n k (b.drop n)).1, (gnF n k (b.drop n)).2) := by rw [gnF, if_pos h]
      rw [e]
      unfold gnE
      dsimp only
      rw [List.append_assoc, List.singleton_append]
      split
      · rfl
      · congr 2
        simp only [List.length_cons]
        omega
    · rw [if_neg h] at he
      refine Runs'.done (lp := LP0) LPok.none ga49 (he.trans ?_)
      have e : gnF n (k + 1) b = ([], b, false) := by rw [gnF, if_neg h]
      rw [e]
      show _ = some (Sum.inr (Ex.pan (.iface 93 (.agg [])), gnp x b m n ((i : Int) + ((0 : Nat) : Int)) (l ++ [])))
      rw [List.append_nil, show ((i : Int) + ((0 : Nat) : Int)) = i by omega]
abbrev GnD : Type := (Bool × List Int) × Int × Int
def gnHd (d : GnD) : St := gnh0 d.1.1 d.1.2 d.2.1 d.2.2 0
theorem gnHd_inj (d d' : GnD) (h : gnHd d = gnHd d') : d = d' := by
  obtain ⟨⟨x, b⟩, m, n⟩ := d
  obtain ⟨⟨x', b'⟩, m', n'⟩ := d'
  simp only [gnHd, gnh0, boxB, St.mk.injEq, List.cons.injEq, Prod.mk.injEq, AV.slc.injEq, AV.int.injEq, Blk.mk.injEq, and_true, true_and] at h
  obtain ⟨⟨h1, h2⟩, h3, h4⟩ := h
  rw [h1, h2, h3, map_inj (fs := [.fi .u8]) rfl h4]
def gnL (d : GnD) : List Int := (gnF d.2.2.toNat d.2.1.toNat d.1.2).1
def gnB (d : GnD) : List Int := (gnF d.2.2.toNat d.2.1.toNat d.1.2).2.1
def gnO (d : GnD) : Bool := (gnF d.2.2.toNat d.2.1.toNat d.1.2).2.2
def noI (l : List Int) : Bool := l.isEmpty
def gnPre (d : GnD) : Prop := (0 ≤ d.2.1 ∧ d.2.1 ≤ 1000) ∧ (1 ≤ d.2.2 ∧ d.2.2 ≤ 7) ∧ byt d.1.2
def gnx0 (x : Bool) (b : List Int) : St := { fr := [(6, .slc true [])], bs := [(1000000, boxB [.slc x (b.map (mkV false [.fi .u8]))])], df := [] }
def gnx1 (x : Bool) (b l : List Int) : St := { fr := [(6, .sref 240 0 0 (l.map (mkV false [.fi .i64])).length)], bs := [(240, { v := 0, k := .row, fz := false, sz := 1, es := l.map (mkV false [.fi .i64]) }), (1000000, boxB [.slc x (b.map (mkV false [.fi .u8]))])], df := [] }
def gnp0 (x : Bool) (b : List Int) (m n i : Int) : St := { fr := [(12, .int .i64 n), (11, .ptr 1000000 0 0 0), (10, .slc true []), (9, .bool true), (0, .ptr 1000000 0 0 0), (2, .int .i64 n), (6, .slc true []), (7, .int .i64 m), (8, .int .i64 i)], bs := [(1000000, boxB [.slc x (b.map (mkV false [.fi .u8]))]), (1000000, boxB [.slc x (b.map (mkV false [.fi .u8]))])], df := [] }
def gnp1 (x : Bool) (b : List Int) (m n i : Int) (l : List Int) : St := { fr := [(12, .int .i64 n), (11, .ptr 1000000 0 0 0), (10, .sref 240 0 0 (l.map (mkV false [.fi .i64])).length), (9, .bool true), (0, .ptr 1000000 0 0 0), (2, .int .i64 n), (6, .sref 240 0 0 (l.map (mkV false [.fi .i64])).length), (7, .int .i64 m), (8, .int .i64 i)], bs := [(1000000, boxB [.slc x (b.map (mkV false [.fi .u8]))]), (240, { v := 0, k := .row, fz := false, sz := 1, es := l.map (mkV false [.fi .i64]) }), (1000000, boxB [.slc x (b.map (mkV false [.fi .u8]))])], df := [] }
noncomputable def gnLp : LP := LP.of gnHd gnPre fun d => .ite (gnO d) (.ite (noI (gnL d)) (.leaf (.exit 0, gnx0 d.1.1 (gnB d))) (.leaf (.exit 0, gnx1 d.1.1 (gnB d) (gnL d)))) (.ite (noI (gnL d)) (.leaf (.pan (.iface 93 (.agg [])), gnp0 d.1.1 (gnB d) d.2.1 d.2.2 (0 + ((gnL d).length : Int)))) (.leaf (.pan (.iface 93 (.agg [])), gnp1 d.1.1 (gnB d) d.2.1 d.2.2 (0 + ((gnL d).length : Int)) (gnL d))))
noncomputable def gnP : LPs := LPs.add LP0 49 0 gnLp
theorem gnP_ok : LPok Try.prog cfg PK9 gnP 49 := LPok.addH LPok.none go49 (by
  rintro ⟨⟨x, b⟩, m, n⟩ ⟨⟨h1, h2⟩, ⟨h3, h4⟩, h5⟩
  dsimp only at h1 h2 h3 h4 h5
  obtain ⟨m, rfl⟩ := Int.eq_ofNat_of_zero_le h1
  obtain ⟨n, rfl⟩ := Int.eq_ofNat_of_zero_le (show 0 ≤ n by omega)
  have hr := gn_run x m n (by omega) ⟨by omega, by omega⟩ m 0 b [] (by omega) h5 (by simp; omega) rounds (by simp only [rounds]; omega)
  refine cast ?_ hr
  congr 1
  have e1 : gnO ((x, b), (m : Int), (n : Int)) = (gnF n m b).2.2 := rfl
  have e2 : gnL ((x, b), (m : Int), (n : Int)) = (gnF n m b).1 := rfl
  have e3 : gnB ((x, b), (m : Int), (n : Int)) = (gnF n m b).2.1 := rfl
  rw [e1, e2, e3]
  unfold gnE
  generalize gnF n m b = r
  obtain ⟨r1, r2, r3⟩ := r
  dsimp only
  cases r3 with
  | true => cases r1 <;> rfl
  | false => cases r1 <;> rfl)
abbrev gns_id : Nat := 49
abbrev gns_sh : Shp := [none, none]
abbrev gns_fs : List Lf := [.fi .i64, .fi .i64]
abbrev gns_bs : List Lf := [.fl false [.fi .u8]]
abbrev gns_rsh : Shp := [none]
abbrev gns_rfs : List Lf := [.fl false [.fi .i64]]
noncomputable def gns_r (r_b_x : Bool) (r_b : List Int) (many : Int) (n : Int) : Option Ret :=
  oK (gnLp.dec { fr := [(0, AV.ptr 1000000 0 0 0), (2, AV.int IntKind.i64 n), (6, AV.slc true []), (7, AV.int IntKind.i64 many), (8, AV.int IntKind.i64 0)], bs := [(1000000, { v := 0, k := BK.box, fz := false, sz := 0, es := [AV.slc r_b_x (List.map (mkV false [Lf.fi IntKind.u8]) r_b)] })], df := [] }) fun (d0 : (Bool × List Int) × Int × Int) => bK (gnO d0) (bK (noI (gnL d0)) (some { pan := false, res := AV.slc true [], out := [{ v := 0, k := BK.box, fz := false, sz := 0, es := [AV.slc d0.fst.fst (List.map (mkV false [Lf.fi IntKind.u8]) (gnB d0))] }], new := [] }) (bK (decide (0 + (List.map (mkV false [Lf.fi IntKind.i64]) (gnL d0)).length ≤ (List.map (mkV false [Lf.fi IntKind.i64]) (gnL d0)).length)) (some { pan := false, res := AV.slc false (List.take (List.map (mkV false [Lf.fi IntKind.i64]) (gnL d0)).length (List.drop 0 (List.map (mkV false [Lf.fi IntKind.i64]) (gnL d0)))), out := [{ v := 0, k := BK.box, fz := false, sz := 0, es := [AV.slc d0.fst.fst (List.map (mkV false [Lf.fi IntKind.u8]) (gnB d0))] }], new := [] }) none)) (bK (noI (gnL d0)) (some { pan := true, res := AV.iface 93 (AV.agg []), out := [{ v := 0, k := BK.box, fz := false, sz := 0, es := [AV.slc d0.fst.fst (List.map (mkV false [Lf.fi IntKind.u8]) (gnB d0))] }], new := [] }) (some { pan := true, res := AV.iface 93 (AV.agg []), out := [{ v := 0, k := BK.box, fz := false, sz := 0, es := [AV.slc d0.fst.fst (List.map (mkV false [Lf.fi IntKind.u8]) (gnB d0))] }], new := [] }))
theorem gns_w (r_b_x : Bool) (r_b : List Int) (many : Int) (n : Int) : unitQ Try.prog cfg PK9 gnP false 49 (.ptr outBase 0 0 0 :: groupA gns_sh (Tu.mk gns_fs (many, n))) [boxB (Tu.mk gns_bs (r_b_x, r_b))] = gns_r r_b_x r_b many n := by kernel_rfl

end Go.Proofs.Ytmjgiplgghmapaa
