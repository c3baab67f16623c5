/- A part of the proof: contracts of functions. -/
import Derived.Test.YtbifdenekkijfaaA
import Derived.Test.YtbifdenekkijfaaAbAny

set_option linter.unusedVariables false
set_option linter.unusedSimpArgs false
set_option maxRecDepth 100000
namespace Go.Proofs.Ytbifdenekkijfaa
open Go Go.Ab
noncomputable def B1 : PKs := PK1.add 22 grefoS.pk
theorem B1_ok : PKsOk Try.prog B1 := PKsOk.anyF PK1_ok 22 grefoS grefoO
def leh (x : Bool) (l : List Lease_T) (p : Picks_T) (i : Int) : St := { fr := [(0, .ptr 1000000 0 0 0), (3, .slc x (l.map (mkV true Lease_tfs))), (4, .int .i64 i)], bs := [(1000000, boxB (Tu.mk Picks_tfs p))], df := [] }
noncomputable def le_s (x : Bool) (l : List Lease_T) (p : Picks_T) (i : Int) : Option (St ⊕ (Ex × St)) := stepK Try.prog cfg B1 LP0 10 0 (leh x l p i)
noncomputable def le_s_r (x : Bool) (l : List Lease_T) (p : Picks_T) (i : Int) : Option (St ⊕ Ex × St) :=
  bK (decide (0 < i))
  (oK (numS.dec [AV.ptr 1000000 0 0 0, AV.int IntKind.i64 3] [{ v := 0, k := BK.box, fz := false, sz := 0, es := [AV.slc p.fst.fst (List.map (mkV false [Lf.fi IntKind.u8]) p.fst.snd), AV.int IntKind.i64 p.snd] }]) fun (d0 : ((Bool × List Int) × Int) × Int) =>
    oK (numS.dec [AV.ptr 1000000 0 0 0, AV.int IntKind.i64 3] [{ v := 0, k := BK.box, fz := false, sz := 0, es := [AV.slc (numF d0.fst d0.snd).fst.fst.fst (List.map (mkV false [Lf.fi IntKind.u8]) (numF d0.fst d0.snd).fst.fst.snd), AV.int IntKind.i64 (numF d0.fst d0.snd).fst.snd] }]) fun (d1 : ((Bool × List Int) × Int) × Int) =>
      oK (numS.dec [AV.ptr 1000000 0 0 0, AV.int IntKind.i64 2] [{ v := 0, k := BK.box, fz := false, sz := 0, es := [AV.slc (numF d1.fst d1.snd).fst.fst.fst (List.map (mkV false [Lf.fi IntKind.u8]) (numF d1.fst d1.snd).fst.fst.snd), AV.int IntKind.i64 (numF d1.fst d1.snd).fst.snd] }]) fun (d2 : ((Bool × List Int) × Int) × Int) =>
        oK (numS.dec [AV.ptr 1000000 0 0 0, AV.int IntKind.i64 200] [{ v := 0, k := BK.box, fz := false, sz := 0, es := [AV.slc (numF d2.fst d2.snd).fst.fst.fst (List.map (mkV false [Lf.fi IntKind.u8]) (numF d2.fst d2.snd).fst.fst.snd), AV.int IntKind.i64 (numF d2.fst d2.snd).fst.snd] }]) fun (d3 : ((Bool × List Int) × Int) × Int) =>
          oK (grefoS.dec [AV.slc x (List.map (mkV true Lease_tfs) l), AV.agg [AV.int IntKind.i64 (IntKind.i64.wrap (1 + (numF d0.fst d0.snd).snd)), AV.int IntKind.i64 (IntKind.i64.wrap (1 + (numF d1.fst d1.snd).snd)), AV.int IntKind.i64 (IntKind.i64.wrap (1 + (numF d2.fst d2.snd).snd)), AV.int IntKind.i64 (numF d3.fst d3.snd).snd]] []) fun (d4 : (Bool × List (Int × Int × Int × Int)) × Int × Int × Int × Int) =>
            bK (List.map (mkV true Lease_tfs) (grefQ d4.fst.snd d4.snd)).isEmpty (some (Sum.inl { fr := [(0, AV.ptr 1000000 0 0 0), (3, AV.slc true []), (4, AV.int IntKind.i64 (IntKind.i64.wrap (i - 1)))], bs := [(1000000, { v := 0, k := BK.box, fz := false, sz := 0, es := [AV.slc (numF d3.fst d3.snd).fst.fst.fst (List.map (mkV false [Lf.fi IntKind.u8]) (numF d3.fst d3.snd).fst.fst.snd), AV.int IntKind.i64 (numF d3.fst d3.snd).fst.snd] })], df := [] })) (bK (decide (0 + (List.map (mkV true Lease_tfs) (grefQ d4.fst.snd d4.snd)).length ≤ (List.map (mkV true Lease_tfs) (grefQ d4.fst.snd d4.snd)).length)) (some (Sum.inl { fr := [(0, AV.ptr 1000000 0 0 0), (3, AV.slc false (List.take (List.map (mkV true Lease_tfs) (grefQ d4.fst.snd d4.snd)).length (List.drop 0 (List.map (mkV true Lease_tfs) (grefQ d4.fst.snd d4.snd))))), (4, AV.int IntKind.i64 (IntKind.i64.wrap (i - 1)))], bs := [(1000000, { v := 0, k := BK.box, fz := false, sz := 0, es := [AV.slc (numF d3.fst d3.snd).fst.fst.fst (List.map (mkV false [Lf.fi IntKind.u8]) (numF d3.fst d3.snd).fst.fst.snd), AV.int IntKind.i64 (numF d3.fst d3.snd).fst.snd] })], df := [] })) none))
  (some (Sum.inr (Ex.exit 0, { fr := [(3, AV.slc x (List.map (mkV true Lease_tfs) l))], bs := [(1000000, { v := 0, k := BK.box, fz := false, sz := 0, es := [AV.slc p.fst.fst (List.map (mkV false [Lf.fi IntKind.u8]) p.fst.snd), AV.int IntKind.i64 p.snd] })], df := [] })))
theorem le_s_w (x : Bool) (l : List Lease_T) (p : Picks_T) (i : Int) : le_s x l p i = le_s_r x l p i := by kernel_rfl

def le1 (p : Picks_T) : Lease_T := (1 + (numF p 3).2, 1 + (numF (numF p 3).1 3).2, 1 + (numF (numF (numF p 3).1 3).1 2).2, (numF (numF (numF (numF p 3).1 3).1 2).1 200).2)
def le2 (p : Picks_T) : Picks_T := (numF (numF (numF (numF p 3).1 3).1 2).1 200).1
def leaN : Nat → Picks_T → List Lease_T → Picks_T × List Lease_T
  | 0, p, l => (p, l)
  | k + 1, p, l => leaN k (le2 p) (grefQ l (le1 p))
theorem firstN_le {α : Type} (p : α → Bool) (l : List α) : (firstN p l 0).toNat ≤ l.length := by
  rcases firstN_lt p l with h | h <;> omega
theorem gref_len (l : List Lease_T) (t : Lease_T) : (grefQ l t).length ≤ l.length + 1 ∧ grefQ l t ≠ [] := by
  have e0 : grefQ l t = if 0 ≤ posQ (dropQ l (upQ l t).1 (upQ l t).2.1) (upQ l t) then insQ (dropQ l (upQ l t).1 (upQ l t).2.1) (upQ l t) else dropQ l (upQ l t).1 (upQ l t).2.1 ++ [upQ l t] := rfl
  have hle : (dropQ l (upQ l t).1 (upQ l t).2.1).length ≤ l.length := List.length_filter_le _ _
  rw [e0]
  generalize dropQ l (upQ l t).1 (upQ l t).2.1 = r at hle
  generalize upQ l t = u
  split
  · have hi : insQ r u = r.take (posQ r u).toNat ++ u :: r.drop (posQ r u).toNat := rfl
    have := firstN_le (behF u) r
    rw [hi]
    refine ⟨?_, by simp⟩
    simp only [List.length_append, List.length_take, List.length_cons, List.length_drop]
    omega
  · exact ⟨by simp; omega, by simp⟩
theorem le2_ok {p : Picks_T} (h : pkOk p) : pkOk (le2 p) := numF_ok (numF_ok (numF_ok (numF_ok h)))
def leE (x : Bool) (l : List Lease_T) (p : Picks_T) : Ex × St := (.exit 0, { fr := [(3, .slc x (l.map (mkV true Lease_tfs)))], bs := [(1000000, boxB (Tu.mk Picks_tfs p))], df := [] })
theorem lel : (loopsOf 0 (codeOf Try.prog 10)).map (·.1) = [0] := by kernel_rfl
theorem leo : OneLoops Try.prog 10 := by unfold OneLoops; rw [lel]; decide
theorem lea : At 0 (codeOf Try.prog 10) 0 (.loop (bodyAt Try.prog 10 0)) := at_body leo (by rw [lel]; decide)
theorem le_run : ∀ (k : Nat) (x : Bool) (l : List Lease_T) (p : Picks_T) (fu : Nat), pkOk p → l.length + k ≤ 1000 → k < fu → Runs' Try.prog cfg B1 10 0 fu (leh x l p k) (leE (decide (k = 0) && x) (leaN k p l).2 (leaN k p l).1)
  | 0, x, l, p, fu + 1, hp, hl, hf => by
    refine Runs'.done (lp := LP0) LPok.none lea ((le_s_w x l p 0).trans ?_)
    unfold le_s_r
    rw [bK_neg (by simp)]
    rfl
  | k + 1, x, l, p, fu + 1, hp, hl, hf => by
    have hg := gref_len l (le1 p)
    have hr := le_run k false (grefQ l (le1 p)) (le2 p) fu (le2_ok hp) (by omega) (by omega)
    rw [Bool.and_false] at hr
    rw [show (decide (k + 1 = 0) && x) = false by simp]
    refine Runs'.step (lp := LP0) LPok.none lea ((le_s_w x l p _).trans ?_) hr
    have b1 := numF_lt hp (m := 3) (by omega)
    have b2 := numF_lt (numF_ok hp (m := 3)) (m := 3) (by omega)
    have b3 := numF_lt (numF_ok (numF_ok hp (m := 3)) (m := 3)) (m := 2) (by omega)
    unfold le_s_r
    rw [bK_pos (decide_eq_true (by omega))]
    refine oK_msq (Q := fun z => z = _) numS p (3 : Int) hp (oK_msq (Q := fun z => z = _) numS (numF p 3).1 (3 : Int) (numF_ok hp) (oK_msq (Q := fun z => z = _) numS (numF (numF p 3).1 3).1 (2 : Int) (numF_ok (numF_ok hp)) (oK_msq (Q := fun z => z = _) numS (numF (numF (numF p 3).1 3).1 2).1 (200 : Int) (numF_ok (numF_ok (numF_ok hp))) ?_)))
    dsimp only
    rw [w64 (n := 1 + (numF p 3).2) (by omega) (by omega), w64 (n := 1 + (numF (numF p 3).1 3).2) (by omega) (by omega), w64 (n := 1 + (numF (numF (numF p 3).1 3).1 2).2) (by omega) (by omega), w64 (by omega) (by omega)]
    refine oK_fsq (Q := fun z => z = _) grefoS ((x, l), le1 p) (by show l.length ≤ 100000; omega) ?_
    dsimp only
    have he : (((grefQ l (le1 p)).map (mkV true Lease_tfs)).isEmpty) = false := isE hg.2
    generalize grefQ l (le1 p) = m at he
    refine bK_fq (Q := fun z => z = _) he (bK_tq (Q := fun z => z = _) (by simp) ?_)
    rw [List.drop_zero, List.take_length, show ((k + 1 : Nat) : Int) - 1 = (k : Int) by omega]
    rfl
abbrev LeD : Type := (Bool × List Lease_T) × Picks_T × Int
def leHd (d : LeD) : St := leh d.1.1 d.1.2 d.2.1 d.2.2
theorem leHd_inj (d d' : LeD) (h : leHd d = leHd d') : d = d' := by
  obtain ⟨⟨x, l⟩, p, i⟩ := d
  obtain ⟨⟨x', l'⟩, p', i'⟩ := d'
  simp only [leHd, leh, boxB, St.mk.injEq, List.cons.injEq, Prod.mk.injEq, AV.slc.injEq, AV.int.injEq, Blk.mk.injEq, and_true, true_and] at h
  rw [h.1.1.1, map_inj (fs := Lease_tfs) rfl h.1.1.2, h.1.2, mk_inj (fs := Picks_tfs) rfl h.2]
/-- Nil still? -/
def leaX (x : Bool) (i : Int) : Bool := decide (i.toNat = 0) && x
def leaP (l : List Lease_T) (p : Picks_T) (i : Int) : Picks_T := (leaN i.toNat p l).1
def leaL (l : List Lease_T) (p : Picks_T) (i : Int) : List Lease_T := (leaN i.toNat p l).2
noncomputable def leL : LP := LP.of leHd (fun d => pkOk d.2.1 ∧ 0 ≤ d.2.2 ∧ (d.1.2.length : Int) + d.2.2 ≤ 1000) fun d => .leaf (.exit 0, { fr := [(3, .slc (leaX d.1.1 d.2.2) ((leaL d.1.2 d.2.1 d.2.2).map (mkV true Lease_tfs)))], bs := [(1000000, boxB (Tu.mk Picks_tfs (leaP d.1.2 d.2.1 d.2.2)))], df := [] })
noncomputable def leP : LPs := LPs.add LP0 10 0 leL
theorem leP_ok : LPok Try.prog cfg B1 leP 10 := LPok.addH LPok.none leo (by
  rintro ⟨⟨x, l⟩, p, i⟩ ⟨h1, h2, h3⟩
  simp only at h1 h2 h3
  have := le_run i.toNat x l p rounds h1 (by omega) (by simp only [rounds]; omega)
  rw [Int.toNat_of_nonneg h2] at this
  exact this)
abbrev leas_id : Nat := 10
abbrev leas_sh : Shp := []
abbrev leas_fs : List Lf := []
abbrev leas_bs : List Lf := [.fl false [.fi .u8], .fi .i64]
abbrev leas_rsh : Shp := [none]
abbrev leas_rfs : List Lf := [.fl true Lease_tfs]
noncomputable def leas_r (p_l_x : Bool) (p_l : List Int) (p_n : Int) : Option Ret :=
  oK (numS.dec [AV.ptr 1000000 0 0 0, AV.int IntKind.i64 8] [{ v := 0, k := BK.box, fz := false, sz := 0, es := [AV.slc p_l_x (List.map (mkV false [Lf.fi IntKind.u8]) p_l), AV.int IntKind.i64 p_n] }]) fun (d0 : ((Bool × List Int) × Int) × Int) => oK (leL.dec { fr := [(0, AV.ptr 1000000 0 0 0), (3, AV.slc true []), (4, AV.int IntKind.i64 (numF d0.fst d0.snd).snd)], bs := [(1000000, { v := 0, k := BK.box, fz := false, sz := 0, es := [AV.slc (numF d0.fst d0.snd).fst.fst.fst (List.map (mkV false [Lf.fi IntKind.u8]) (numF d0.fst d0.snd).fst.fst.snd), AV.int IntKind.i64 (numF d0.fst d0.snd).fst.snd] })], df := [] }) fun (d1 : (Bool × List (Int × Int × Int × Int)) × ((Bool × List Int) × Int) × Int) => some { pan := false, res := AV.slc (leaX d1.fst.fst d1.snd.snd) (List.map (mkV true Lease_tfs) (leaL d1.fst.snd d1.snd.fst d1.snd.snd)), out := [{ v := 0, k := BK.box, fz := false, sz := 0, es := [AV.slc (leaP d1.fst.snd d1.snd.fst d1.snd.snd).fst.fst (List.map (mkV false [Lf.fi IntKind.u8]) (leaP d1.fst.snd d1.snd.fst d1.snd.snd).fst.snd), AV.int IntKind.i64 (leaP d1.fst.snd d1.snd.fst d1.snd.snd).snd] }], new := [] }
theorem leas_w (p_l_x : Bool) (p_l : List Int) (p_n : Int) : unitQ Try.prog cfg B1 leP false 10 (.ptr outBase 0 0 0 :: groupA leas_sh (Tu.mk leas_fs ())) [boxB (Tu.mk leas_bs ((p_l_x, p_l), p_n))] = leas_r p_l_x p_l p_n := by kernel_rfl

noncomputable def leasS : MS := ⟨leas_bs, leas_sh, leas_fs, leas_rsh, leas_rfs, fun b _ => pkOk b, fun b _ => (leaP [] (numF b 8).1 (numF b 8).2, (leaX true (numF b 8).2, leaL [] (numF b 8).1 (numF b 8).2)), none⟩
theorem leasO : ∀ (b : Tu leasS.bs) (d : Tu leasS.fs), leasS.pre b d → CallOk Try.prog 10 (leasS.args d) (leasS.out0 b) (leasS.ret b d) := by
  rintro p d h
  have h' : pkOk p := h
  have b1 := numF_lt h' (m := 8) (by omega)
  refine CallOk.unit (fnOk B1_ok 21) rfl leP_ok.loops (o := false) (by show 1 ≤ 1000; decide) ((leas_w p.1.1 p.1.2 p.2).trans ?_)
  unfold leas_r
  refine oK_msq (Q := fun z => z = _) numS p (8 : Int) h' ?_
  exact oK_lpq (Q := fun z => z = _) leHd_inj ((true, []), (numF p 8).1, (numF p 8).2) ⟨numF_ok h', b1.1, by show ((0 : Nat) : Int) + (numF p 8).2 ≤ 1000; omega⟩ rfl

end Go.Proofs.Ytbifdenekkijfaa
