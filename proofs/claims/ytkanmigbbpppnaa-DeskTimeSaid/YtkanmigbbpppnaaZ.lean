/- A part of the proof: contracts of functions. -/
import Derived.Test.YtkanmigbbpppnaaY
import Derived.Test.YtkanmigbbpppnaaAbAny

set_option linter.unusedVariables false
set_option linter.unusedSimpArgs false
set_option maxRecDepth 100000
namespace Go.Proofs.Ytkanmigbbpppnaa
open Go Go.Ab
noncomputable def Z1 : PKs := PKz.add 28 drefoS.pk
theorem Z1_ok : PKsOk Try.prog Z1 := PKsOk.anyF PKz_ok 28 drefoS drefoO
def g0h (x : Bool) (l : List Lease_T) (t : Lease_T) (i : Int) : St := { fr := [(0, .slc x (l.map (mkV true Lease_tfs))), (3, .ptr 48 0 0 0), (5, .int .i64 i)], bs := [(48, boxB (Tu.mk Lease_tfs t))], df := [] }
noncomputable def g0_s (x : Bool) (l : List Lease_T) (t : Lease_T) (i : Int) : Option (St ⊕ (Ex × St)) := stepK Try.prog cfg Z1 LP0 53 0 (g0h x l t i)
noncomputable def g0_s_r (x : Bool) (l : List Lease_T) (t : Lease_T) (i : Int) : Option (St ⊕ Ex × St) :=
 bK (decide (i < (↑(mW l).length : Int)))
 (oK (elemAt true Wait_tfs (mW l) i) fun (d0 : Int × Int × Int × Int) =>
 bK (decide (d0.1 = t.1)) (oK (elemAt true Wait_tfs (mW l) i) fun (d1 : Int × Int × Int × Int) => bK (decide (d1.2.1 = t.2.1)) (oK (elemAt true Wait_tfs (mW l) i) fun (d2 : Int × Int × Int × Int) => oK (elemAt true Wait_tfs (mW l) i) fun (d3 : Int × Int × Int × Int) => some (.inl (sf [(0, sl x l), (3, pt 48), (5, i6 (IntKind.i64.wrap (i + 1)))] [(48, (bx [i6 t.1, i6 t.2.1, i6 (maxI t.2.2.1 d2.2.2.1), i6 (maxI t.2.2.2 d3.2.2.2)]))]))) (some (.inl (sf [(0, sl x l), (3, pt 48), (5, i6 (IntKind.i64.wrap (i + 1)))] [(48, (bx [i6 t.1, i6 t.2.1, i6 t.2.2.1, i6 t.2.2.2]))])))) (some (.inl (sf [(0, sl x l), (3, pt 48), (5, i6 (IntKind.i64.wrap (i + 1)))] [(48, (bx [i6 t.1, i6 t.2.1, i6 t.2.2.1, i6 t.2.2.2]))]))))
 (some (.inr (.exit 0, (sf [(0, sl x l), (3, pt 48)] [(48, (bx [i6 t.1, i6 t.2.1, i6 t.2.2.1, i6 t.2.2.2]))]))))
theorem g0_s_w (x : Bool) (l : List Lease_T) (t : Lease_T) (i : Int) : g0_s x l t i = g0_s_r x l t i := by kernel_rfl

def upF (t y : Lease_T) : Lease_T := if y.1 = t.1 ∧ y.2.1 = t.2.1 then (t.1, t.2.1, maxI t.2.2.1 y.2.2.1, maxI t.2.2.2 y.2.2.2) else t
def upN (l : List Lease_T) (t : Lease_T) : Lease_T := l.foldl upF t
def upQ (l : List Lease_T) (t : Lease_T) : Lease_T := upN l t
theorem gl : (loopsOf 0 (codeOf Try.prog 53)).map (·.1) = [0, 2] := by kernel_rfl
theorem go : OneLoops Try.prog 53 := by unfold OneLoops; rw [gl]; decide
theorem ga0 : At 0 (codeOf Try.prog 53) 0 (.loop (bodyAt Try.prog 53 0)) := at_body go (by rw [gl]; decide)
theorem ga2 : At 0 (codeOf Try.prog 53) 2 (.loop (bodyAt Try.prog 53 2)) := at_body go (by rw [gl]; decide)
def g0e (x : Bool) (l : List Lease_T) (t : Lease_T) : Ex × St := (.exit 0, { fr := [(0, .slc x (l.map (mkV true Lease_tfs))), (3, .ptr 48 0 0 0)], bs := [(48, boxB (Tu.mk Lease_tfs t))], df := [] })
theorem g0_run (x : Bool) (l : List Lease_T) (hl : l.length ≤ 100000) : ∀ (j i : Nat), i + j = l.length → ∀ (t : Lease_T) (fu : Nat), j < fu → Runs' Try.prog cfg Z1 53 0 fu (g0h x l t i) (g0e x l (upN (l.drop i) t))
 | 0, i, hi, t, fu + 1, hm => by
  rw [List.drop_of_length_le (by omega)]
  refine Runs'.done (lp := LP0) LPok.none ga0 ((g0_s_w x l t i).trans ?_)
  unfold g0_s_r
  rw [bK_neg (by simp; omega)]
  rfl
 | j + 1, i, hi, t, fu + 1, hm => by
  have hi' : i < l.length := by omega
  have e : l.drop i = l[i] :: l.drop (i + 1) := List.drop_eq_getElem_cons hi'
  have e2 : l.getD (i : Int).toNat (0, 0, 0, 0) = l[i] := by rw [Int.toNat_natCast, getD_at hi']
  have at_ : ∀ {Q : Option (St ⊕ (Ex × St)) → Prop} {k : Lease_T → Option (St ⊕ (Ex × St))}, Q (k l[i]) → Q (oK (elemAt true Lease_tfs (l.map (mkV true Lease_tfs)) i) k) := fun hk => oK_atq (fs := Lease_tfs) (0, 0, 0, 0) (by omega) (by simpa using hi') (by rw [e2]; exact hk)
  have e1 : IntKind.i64.wrap ((i : Int) + 1) = ((i + 1 : Nat) : Int) := by rw [w64 (by omega) (by omega)]; omega
  rw [e]
  refine Runs'.step (lp := LP0) LPok.none ga0 ((g0_s_w x l t i).trans ?_) (g0_run x l hl j (i + 1) (by omega) (upF t l[i]) fu (by omega))
  unfold g0_s_r
  rw [bK_pos (by simp; omega), e1]
  refine at_ (Q := (· = _)) ?_
  refine bK_iq (Q := (· = _)) (fun c1 => ?_) (fun c1 => ?_)
  ·refine at_ (Q := (· = _)) ?_
   refine bK_iq (Q := (· = _)) (fun c2 => ?_) (fun c2 => ?_)
   ·refine at_ (Q := (· = _)) ?_
    refine at_ (Q := (· = _)) ?_
    rw [show upF t l[i] = (t.1, t.2.1, maxI t.2.2.1 l[i].2.2.1, maxI t.2.2.2 l[i].2.2.2) from if_pos ⟨c1, c2⟩]
    rfl
   ·rw [show upF t l[i] = t from if_neg (fun h => c2 h.2)]; rfl
  ·rw [show upF t l[i] = t from if_neg (fun h => c1 h.1)]; rfl
abbrev G0D : Type := (Bool × List Lease_T) × Lease_T
def g0Hd (d : G0D) : St := g0h d.1.1 d.1.2 d.2 0
theorem g0Hd_inj (d d' : G0D) (h : g0Hd d = g0Hd d') : d = d' := by
 obtain ⟨⟨x, l⟩, t⟩ := d
 obtain ⟨⟨x', l'⟩, t'⟩ := d'
 simp only [g0Hd, g0h, boxB, St.mk.injEq, List.cons.injEq, Prod.mk.injEq, AV.slc.injEq, Blk.mk.injEq, and_true, true_and] at h
 rw [h.1.1, map_inj (fs := Lease_tfs) rfl h.1.2, mk_inj (fs := Lease_tfs) rfl h.2]
noncomputable def g0L : LP := LP.of g0Hd (fun d => d.1.2.length ≤ 100000) fun d => .leaf (.exit 0, { fr := [(0, .slc d.1.1 (d.1.2.map (mkV true Lease_tfs))), (3, .ptr 48 0 0 0)], bs := [(48, boxB (Tu.mk Lease_tfs (upQ d.1.2 d.2)))], df := [] })
noncomputable def g0P : LPs := LPs.add LP0 53 0 g0L
theorem g0P_ok : LPok Try.prog cfg Z1 g0P 53 := LPok.addH LPok.none go fun d h => by
 have h2 : d.1.2.length ≤ 100000 := h
 exact g0_run d.1.1 d.1.2 h2 d.1.2.length 0 (by omega) d.2 rounds (by simp only [rounds]; omega)
noncomputable def g0_h (x : Bool) (l : List Lease_T) (t : Lease_T) : Option (Ex × St) := headK Try.prog cfg Z1 g0P 53 2 [.slc x (l.map (mkV true Lease_tfs)), .agg (Tu.mk Lease_tfs t)] []
noncomputable def g0_h_r (x : Bool) (l : List Lease_T) (t : Lease_T) : Option (Ex × St) :=
 oK (g0L.dec (sf [(0, sl x l), (3, pt 48), (5, i6 0)] [(48, (bx [i6 t.1, i6 t.2.1, i6 t.2.2.1, i6 t.2.2.2]))])) fun (d0 : LW × Int × Int × Int × Int) =>
 oK (drefoS.dec [sl d0.1.1 d0.1.2, i6 (upQ d0.1.2 d0.2).1, i6 (upQ d0.1.2 d0.2).2.1] []) fun (d1 : LW × Int × Int) => bK (mW (dropQ d1.1.2 d1.2.1 d1.2.2)).isEmpty (some (.exit 999999, (sf [(3, pt 48), (6, .slc true []), (7, i6 0)] [(48, (bx [i6 (upQ d0.1.2 d0.2).1, i6 (upQ d0.1.2 d0.2).2.1, i6 (upQ d0.1.2 d0.2).2.2.1, i6 (upQ d0.1.2 d0.2).2.2.2]))]))) (some (.exit 999999, (sf [(3, pt 48), (6, .sref 880 0 0 (mW (dropQ d1.1.2 d1.2.1 d1.2.2)).length), (7, i6 0)] [(48, (bx [i6 (upQ d0.1.2 d0.2).1, i6 (upQ d0.1.2 d0.2).2.1, i6 (upQ d0.1.2 d0.2).2.2.1, i6 (upQ d0.1.2 d0.2).2.2.2])), (880, (rw4 (dropQ d1.1.2 d1.2.1 d1.2.2)))])))
theorem g0_h_w (x : Bool) (l : List Lease_T) (t : Lease_T) : g0_h x l t = g0_h_r x l t := by kernel_rfl

def g2h (l : List Lease_T) (t : Lease_T) (i : Int) : St := { fr := [(3, .ptr 48 0 0 0), (6, .sref 880 0 0 (l.map (mkV true Lease_tfs)).length), (7, .int .i64 i)], bs := [(48, boxB (Tu.mk Lease_tfs t)), (880, { v := 0, k := .row, fz := false, sz := 4, es := l.map (mkV true Lease_tfs) })], df := [] }
noncomputable def g2_s (l : List Lease_T) (t : Lease_T) (i : Int) : Option (St ⊕ (Ex × St)) := stepK Try.prog cfg Z1 g0P 53 2 (g2h l t i)
noncomputable def g2_s_r (l : List Lease_T) (t : Lease_T) (i : Int) : Option (St ⊕ Ex × St) :=
 bK (decide (0 + (mW l).length ≤ (mW l).length))
 (bK (decide (i < (↑(mW l).length : Int)))
 (bK (decide (0 ≤ i ∧ i < (↑(mW l).length : Int)))
 (bK (decide (0 + i.toNat < (mW l).length))
 (oK (ldRow [Lf.fi .i64] (mW l) (0 + i.toNat) 1) fun (d0 : Int) =>
 bK (decide (t.2.1 < d0))
 (bK (decide (0 ≤ i))
 (bK (decide (0 ≤ i.toNat ∧ 0 + i.toNat ≤ (mW l).length))
 (bK (decide (0 + (i.toNat - 0) ≤ (mW l).length))
 (bK ((List.take (i.toNat - 0) (List.drop 0 (mW l))).all fun (y : AV) => decide (y.cells.length = 4))
 (bK (List.take (i.toNat - 0) (List.drop 0 (mW l))).isEmpty
 (bK (decide (0 ≤ i))
 (bK (decide (i.toNat ≤ (mW l).length ∧ 0 + (mW l).length ≤ (mW l).length))
 (bK (decide (i.toNat = 0 ∨ 0 + i.toNat < (mW l).length))
 (bK (decide (0 + i.toNat + ((mW l).length - i.toNat) ≤ (mW l).length))
 (bK ((List.take ((mW l).length - i.toNat) (List.drop (0 + i.toNat) (mW l))).all fun (y : AV) => decide (y.cells.length = 4))
 (bK (List.take ((mW l).length - i.toNat) (List.drop (0 + i.toNat) (mW l))).isEmpty (some (.inr (.ret, (sf [(3, pt 48), (4, .sref 1552 0 0 1), (6, .sref 880 0 0 (mW l).length)] [(48, (bx [i6 t.1, i6 t.2.1, i6 t.2.2.1, i6 t.2.2.2])), (880, (rw4 l)), (1440, { v := 0, k := .dead, fz := false, sz := 4, es := [] }), (1552, { v := 0, k := .row, fz := false, sz := 4, es := [AV.agg [i6 t.1, i6 t.2.1, i6 t.2.2.1, i6 t.2.2.2]] })]))))
 (bK (true && bytesFit Try.prog 57 (1 + (List.take ((mW l).length - i.toNat) (List.drop (0 + i.toNat) (mW l))).length)) (some (.inr (.ret, (sf [(3, pt 48), (4, .sref 1616 0 0 (1 + (List.take ((mW l).length - i.toNat) (List.drop (0 + i.toNat) (mW l))).length)), (6, .sref 880 0 0 (mW l).length)] [(48, (bx [i6 t.1, i6 t.2.1, i6 t.2.2.1, i6 t.2.2.2])), (880, (rw4 l)), (1440, { v := 0, k := .dead, fz := false, sz := 4, es := [] }), (1552, { v := 0, k := .dead, fz := false, sz := 4, es := [] }), (1616, { v := 0, k := .row, fz := false, sz := 4, es := AV.agg [i6 t.1, i6 t.2.1, i6 t.2.2.1, i6 t.2.2.2] :: List.append._f [] PUnit.unit (List.take ((mW l).length - i.toNat) (List.drop (0 + i.toNat) (mW l))) })])))) none))
 none)
 none)
 (some (.inr (.ret, (sf [(3, pt 48), (4, .sref 1552 0 0 1), (6, .sref 880 0 0 (mW l).length)] [(48, (bx [i6 t.1, i6 t.2.1, i6 t.2.2.1, i6 t.2.2.2])), (880, (rw4 l)), (1440, { v := 0, k := .dead, fz := false, sz := 4, es := [] }), (1552, { v := 0, k := .row, fz := false, sz := 4, es := [AV.agg [i6 t.1, i6 t.2.1, i6 t.2.2.1, i6 t.2.2.2]] })])))))
 none)
 none)
 (bK (true && bytesFit Try.prog 57 (0 + (List.take (i.toNat - 0) (List.drop 0 (mW l))).length))
 (bK (decide (0 + (0 + (List.take (i.toNat - 0) (List.drop 0 (mW l))).length) ≤ ([] ++ List.take (i.toNat - 0) (List.drop 0 (mW l))).length))
 (bK (decide (0 = 0 ∧ 0 + (List.take (i.toNat - 0) (List.drop 0 (mW l))).length = ([] ++ List.take (i.toNat - 0) (List.drop 0 (mW l))).length) && bytesFit Try.prog 57 (0 + (List.take (i.toNat - 0) (List.drop 0 (mW l))).length + 1))
 (bK (decide (0 ≤ i))
 (bK (decide (i.toNat ≤ (mW l).length ∧ 0 + (mW l).length ≤ (mW l).length))
 (bK (decide (i.toNat = 0 ∨ 0 + i.toNat < (mW l).length))
 (bK (decide (0 + i.toNat + ((mW l).length - i.toNat) ≤ (mW l).length))
 (bK ((List.take ((mW l).length - i.toNat) (List.drop (0 + i.toNat) (mW l))).all fun (y : AV) => decide (y.cells.length = 4))
 (bK (decide (0 + (0 + (List.take (i.toNat - 0) (List.drop 0 (mW l))).length + 1) ≤ (List.take (0 + (List.take (i.toNat - 0) (List.drop 0 (mW l))).length) ([] ++ List.take (i.toNat - 0) (List.drop 0 (mW l))) ++ [AV.agg [i6 t.1, i6 t.2.1, i6 t.2.2.1, i6 t.2.2.2]]).length))
 (bK (List.take ((mW l).length - i.toNat) (List.drop (0 + i.toNat) (mW l))).isEmpty (some (.inr (.ret, (sf [(3, pt 48), (4, .sref 1552 0 0 (0 + (List.take (i.toNat - 0) (List.drop 0 (mW l))).length + 1)), (6, .sref 880 0 0 (mW l).length)] [(48, (bx [i6 t.1, i6 t.2.1, i6 t.2.2.1, i6 t.2.2.2])), (880, (rw4 l)), (1440, { v := 0, k := .dead, fz := false, sz := 4, es := [] }), (1504, { v := 0, k := .dead, fz := false, sz := 4, es := [] }), (1552, { v := 0, k := .row, fz := false, sz := 4, es := List.take (0 + (List.take (i.toNat - 0) (List.drop 0 (mW l))).length) ([] ++ List.take (i.toNat - 0) (List.drop 0 (mW l))) ++ [AV.agg [i6 t.1, i6 t.2.1, i6 t.2.2.1, i6 t.2.2.2]] })]))))
 (bK (decide (0 = 0 ∧ 0 + (List.take (i.toNat - 0) (List.drop 0 (mW l))).length + 1 = (List.take (0 + (List.take (i.toNat - 0) (List.drop 0 (mW l))).length) ([] ++ List.take (i.toNat - 0) (List.drop 0 (mW l))) ++ [AV.agg [i6 t.1, i6 t.2.1, i6 t.2.2.1, i6 t.2.2.2]]).length) && bytesFit Try.prog 57 (0 + (List.take (i.toNat - 0) (List.drop 0 (mW l))).length + 1 + (List.take ((mW l).length - i.toNat) (List.drop (0 + i.toNat) (mW l))).length))
 (some
 (.inr (.ret, (sf [(3, pt 48), (4, .sref 1616 0 0 (0 + (List.take (i.toNat - 0) (List.drop 0 (mW l))).length + 1 + (List.take ((mW l).length - i.toNat) (List.drop (0 + i.toNat) (mW l))).length)), (6, .sref 880 0 0 (mW l).length)] [(48, (bx [i6 t.1, i6 t.2.1, i6 t.2.2.1, i6 t.2.2.2])), (880, (rw4 l)), (1440, { v := 0, k := .dead, fz := false, sz := 4, es := [] }), (1504, { v := 0, k := .dead, fz := false, sz := 4, es := [] }), (1552, { v := 0, k := .dead, fz := false, sz := 4, es := [] }), (1616, { v := 0, k := .row, fz := false, sz := 4, es := List.take (0 + (List.take (i.toNat - 0) (List.drop 0 (mW l))).length + 1) (List.take (0 + (List.take (i.toNat - 0) (List.drop 0 (mW l))).length) ([] ++ List.take (i.toNat - 0) (List.drop 0 (mW l))) ++ [AV.agg [i6 t.1, i6 t.2.1, i6 t.2.2.1, i6 t.2.2.2]]) ++ List.take ((mW l).length - i.toNat) (List.drop (0 + i.toNat) (mW l)) })]))))
 none))
 none)
 none)
 none)
 (bK (decide (0 + (0 + (List.take (i.toNat - 0) (List.drop 0 (mW l))).length + 1) ≤ (List.take (0 + (List.take (i.toNat - 0) (List.drop 0 (mW l))).length) ([] ++ List.take (i.toNat - 0) (List.drop 0 (mW l))) ++ [AV.agg [i6 t.1, i6 t.2.1, i6 t.2.2.1, i6 t.2.2.2]]).length))
 (some (.inr (.ret, (sf [(3, pt 48), (4, .sref 1552 0 0 (0 + (List.take (i.toNat - 0) (List.drop 0 (mW l))).length + 1)), (6, .sref 880 0 0 (mW l).length)] [(48, (bx [i6 t.1, i6 t.2.1, i6 t.2.2.1, i6 t.2.2.2])), (880, (rw4 l)), (1440, { v := 0, k := .dead, fz := false, sz := 4, es := [] }), (1504, { v := 0, k := .dead, fz := false, sz := 4, es := [] }), (1552, { v := 0, k := .row, fz := false, sz := 4, es := List.take (0 + (List.take (i.toNat - 0) (List.drop 0 (mW l))).length) ([] ++ List.take (i.toNat - 0) (List.drop 0 (mW l))) ++ [AV.agg [i6 t.1, i6 t.2.1, i6 t.2.2.1, i6 t.2.2.2]] })])))) none))
 none)
 none)
 none)
 none)
 none))
 none)
 none)
 none)
 none)
 (bK (decide (0 ≤ i ∧ i < (↑(mW l).length : Int)))
 (bK (decide (0 + i.toNat < (mW l).length))
 (oK (ldRow [Lf.fi .i64] (mW l) (0 + i.toNat) 1) fun (d1 : Int) =>
 bK (decide (d1 = t.2.1))
 (bK (decide (0 ≤ i ∧ i < (↑(mW l).length : Int)))
 (bK (decide (0 + i.toNat < (mW l).length))
 (oK (ldRow [Lf.fi .i64] (mW l) (0 + i.toNat) 0) fun (d2 : Int) =>
 bK (decide (t.1 < d2))
 (bK (decide (0 ≤ i))
 (bK (decide (0 ≤ i.toNat ∧ 0 + i.toNat ≤ (mW l).length))
 (bK (decide (0 + (i.toNat - 0) ≤ (mW l).length))
 (bK ((List.take (i.toNat - 0) (List.drop 0 (mW l))).all fun (y : AV) => decide (y.cells.length = 4))
 (bK (List.take (i.toNat - 0) (List.drop 0 (mW l))).isEmpty
 (bK (decide (0 ≤ i))
 (bK (decide (i.toNat ≤ (mW l).length ∧ 0 + (mW l).length ≤ (mW l).length))
 (bK (decide (i.toNat = 0 ∨ 0 + i.toNat < (mW l).length))
 (bK (decide (0 + i.toNat + ((mW l).length - i.toNat) ≤ (mW l).length))
 (bK ((List.take ((mW l).length - i.toNat) (List.drop (0 + i.toNat) (mW l))).all fun (y : AV) => decide (y.cells.length = 4))
 (bK (List.take ((mW l).length - i.toNat) (List.drop (0 + i.toNat) (mW l))).isEmpty (some (.inr (.ret, (sf [(3, pt 48), (4, .sref 1552 0 0 1), (6, .sref 880 0 0 (mW l).length)] [(48, (bx [i6 t.1, i6 t.2.1, i6 t.2.2.1, i6 t.2.2.2])), (880, (rw4 l)), (1440, { v := 0, k := .dead, fz := false, sz := 4, es := [] }), (1552, { v := 0, k := .row, fz := false, sz := 4, es := [AV.agg [i6 t.1, i6 t.2.1, i6 t.2.2.1, i6 t.2.2.2]] })]))))
 (bK (true && bytesFit Try.prog 57 (1 + (List.take ((mW l).length - i.toNat) (List.drop (0 + i.toNat) (mW l))).length)) (some (.inr (.ret, (sf [(3, pt 48), (4, .sref 1616 0 0 (1 + (List.take ((mW l).length - i.toNat) (List.drop (0 + i.toNat) (mW l))).length)), (6, .sref 880 0 0 (mW l).length)] [(48, (bx [i6 t.1, i6 t.2.1, i6 t.2.2.1, i6 t.2.2.2])), (880, (rw4 l)), (1440, { v := 0, k := .dead, fz := false, sz := 4, es := [] }), (1552, { v := 0, k := .dead, fz := false, sz := 4, es := [] }), (1616, { v := 0, k := .row, fz := false, sz := 4, es := AV.agg [i6 t.1, i6 t.2.1, i6 t.2.2.1, i6 t.2.2.2] :: List.append._f [] PUnit.unit (List.take ((mW l).length - i.toNat) (List.drop (0 + i.toNat) (mW l))) })])))) none))
 none)
 none)
 (some (.inr (.ret, (sf [(3, pt 48), (4, .sref 1552 0 0 1), (6, .sref 880 0 0 (mW l).length)] [(48, (bx [i6 t.1, i6 t.2.1, i6 t.2.2.1, i6 t.2.2.2])), (880, (rw4 l)), (1440, { v := 0, k := .dead, fz := false, sz := 4, es := [] }), (1552, { v := 0, k := .row, fz := false, sz := 4, es := [AV.agg [i6 t.1, i6 t.2.1, i6 t.2.2.1, i6 t.2.2.2]] })])))))
 none)
 none)
 (bK (true && bytesFit Try.prog 57 (0 + (List.take (i.toNat - 0) (List.drop 0 (mW l))).length))
 (bK (decide (0 + (0 + (List.take (i.toNat - 0) (List.drop 0 (mW l))).length) ≤ ([] ++ List.take (i.toNat - 0) (List.drop 0 (mW l))).length))
 (bK (decide (0 = 0 ∧ 0 + (List.take (i.toNat - 0) (List.drop 0 (mW l))).length = ([] ++ List.take (i.toNat - 0) (List.drop 0 (mW l))).length) && bytesFit Try.prog 57 (0 + (List.take (i.toNat - 0) (List.drop 0 (mW l))).length + 1))
 (bK (decide (0 ≤ i))
 (bK (decide (i.toNat ≤ (mW l).length ∧ 0 + (mW l).length ≤ (mW l).length))
 (bK (decide (i.toNat = 0 ∨ 0 + i.toNat < (mW l).length))
 (bK (decide (0 + i.toNat + ((mW l).length - i.toNat) ≤ (mW l).length))
 (bK ((List.take ((mW l).length - i.toNat) (List.drop (0 + i.toNat) (mW l))).all fun (y : AV) => decide (y.cells.length = 4))
 (bK (decide (0 + (0 + (List.take (i.toNat - 0) (List.drop 0 (mW l))).length + 1) ≤ (List.take (0 + (List.take (i.toNat - 0) (List.drop 0 (mW l))).length) ([] ++ List.take (i.toNat - 0) (List.drop 0 (mW l))) ++ [AV.agg [i6 t.1, i6 t.2.1, i6 t.2.2.1, i6 t.2.2.2]]).length))
 (bK (List.take ((mW l).length - i.toNat) (List.drop (0 + i.toNat) (mW l))).isEmpty (some (.inr (.ret, (sf [(3, pt 48), (4, .sref 1552 0 0 (0 + (List.take (i.toNat - 0) (List.drop 0 (mW l))).length + 1)), (6, .sref 880 0 0 (mW l).length)] [(48, (bx [i6 t.1, i6 t.2.1, i6 t.2.2.1, i6 t.2.2.2])), (880, (rw4 l)), (1440, { v := 0, k := .dead, fz := false, sz := 4, es := [] }), (1504, { v := 0, k := .dead, fz := false, sz := 4, es := [] }), (1552, { v := 0, k := .row, fz := false, sz := 4, es := List.take (0 + (List.take (i.toNat - 0) (List.drop 0 (mW l))).length) ([] ++ List.take (i.toNat - 0) (List.drop 0 (mW l))) ++ [AV.agg [i6 t.1, i6 t.2.1, i6 t.2.2.1, i6 t.2.2.2]] })]))))
 (bK (decide (0 = 0 ∧ 0 + (List.take (i.toNat - 0) (List.drop 0 (mW l))).length + 1 = (List.take (0 + (List.take (i.toNat - 0) (List.drop 0 (mW l))).length) ([] ++ List.take (i.toNat - 0) (List.drop 0 (mW l))) ++ [AV.agg [i6 t.1, i6 t.2.1, i6 t.2.2.1, i6 t.2.2.2]]).length) && bytesFit Try.prog 57 (0 + (List.take (i.toNat - 0) (List.drop 0 (mW l))).length + 1 + (List.take ((mW l).length - i.toNat) (List.drop (0 + i.toNat) (mW l))).length))
 (some
 (.inr
 (.ret,
 (sf [(3, pt 48), (4, .sref 1616 0 0 (0 + (List.take (i.toNat - 0) (List.drop 0 (mW l))).length + 1 + (List.take ((mW l).length - i.toNat) (List.drop (0 + i.toNat) (mW l))).length)), (6, .sref 880 0 0 (mW l).length)] [(48, (bx [i6 t.1, i6 t.2.1, i6 t.2.2.1, i6 t.2.2.2])), (880, (rw4 l)), (1440, { v := 0, k := .dead, fz := false, sz := 4, es := [] }), (1504, { v := 0, k := .dead, fz := false, sz := 4, es := [] }), (1552, { v := 0, k := .dead, fz := false, sz := 4, es := [] }), (1616, { v := 0, k := .row, fz := false, sz := 4, es := List.take (0 + (List.take (i.toNat - 0) (List.drop 0 (mW l))).length + 1) (List.take (0 + (List.take (i.toNat - 0) (List.drop 0 (mW l))).length) ([] ++ List.take (i.toNat - 0) (List.drop 0 (mW l))) ++ [AV.agg [i6 t.1, i6 t.2.1, i6 t.2.2.1, i6 t.2.2.2]]) ++ List.take ((mW l).length - i.toNat) (List.drop (0 + i.toNat) (mW l)) })]))))
 none))
 none)
 none)
 none)
 (bK (decide (0 + (0 + (List.take (i.toNat - 0) (List.drop 0 (mW l))).length + 1) ≤ (List.take (0 + (List.take (i.toNat - 0) (List.drop 0 (mW l))).length) ([] ++ List.take (i.toNat - 0) (List.drop 0 (mW l))) ++ [AV.agg [i6 t.1, i6 t.2.1, i6 t.2.2.1, i6 t.2.2.2]]).length))
 (some (.inr (.ret, (sf [(3, pt 48), (4, .sref 1552 0 0 (0 + (List.take (i.toNat - 0) (List.drop 0 (mW l))).length + 1)), (6, .sref 880 0 0 (mW l).length)] [(48, (bx [i6 t.1, i6 t.2.1, i6 t.2.2.1, i6 t.2.2.2])), (880, (rw4 l)), (1440, { v := 0, k := .dead, fz := false, sz := 4, es := [] }), (1504, { v := 0, k := .dead, fz := false, sz := 4, es := [] }), (1552, { v := 0, k := .row, fz := false, sz := 4, es := List.take (0 + (List.take (i.toNat - 0) (List.drop 0 (mW l))).length) ([] ++ List.take (i.toNat - 0) (List.drop 0 (mW l))) ++ [AV.agg [i6 t.1, i6 t.2.1, i6 t.2.2.1, i6 t.2.2.2]] })])))) none))
 none)
 none)
 none)
 none)
 none))
 none)
 none)
 none)
 none)
 (some (.inl (sf [(3, pt 48), (6, .sref 880 0 0 (mW l).length), (7, i6 (IntKind.i64.wrap (i + 1)))] [(48, (bx [i6 t.1, i6 t.2.1, i6 t.2.2.1, i6 t.2.2.2])), (880, (rw4 l))]))))
 none)
 none)
 (some (.inl (sf [(3, pt 48), (6, .sref 880 0 0 (mW l).length), (7, i6 (IntKind.i64.wrap (i + 1)))] [(48, (bx [i6 t.1, i6 t.2.1, i6 t.2.2.1, i6 t.2.2.2])), (880, (rw4 l))]))))
 none)
 none))
 none)
 none)
 (some (.inr (.exit 2, (sf [(3, pt 48), (6, .sref 880 0 0 (mW l).length)] [(48, (bx [i6 t.1, i6 t.2.1, i6 t.2.2.1, i6 t.2.2.2])), (880, (rw4 l))])))))
 none
theorem g2_s_w (l : List Lease_T) (t : Lease_T) (i : Int) : g2_s l t i = g2_s_r l t i := by kernel_rfl

def behF (t w : Lease_T) : Bool := decide (t.2.1 < w.2.1) || (decide (w.2.1 = t.2.1) && decide (t.1 < w.1))
def insF (l : List Lease_T) (t : Lease_T) (q : Nat) : List Lease_T := l.take q ++ t :: l.drop q
def posQ (l : List Lease_T) (t : Lease_T) : Int := firstN (behF t) l 0
def insQ (l : List Lease_T) (t : Lease_T) : List Lease_T := insF l t (posQ l t).toNat
def rowL (l : List Lease_T) : Blk := { v := 0, k := .row, fz := false, sz := 4, es := l.map (mkV true Lease_tfs) }
def deadL : Blk := { v := 0, k := .dead, fz := false, sz := 4, es := [] }
def g2y (l m : List Lease_T) (t : Lease_T) (z : Bool) : Ex × St := (.ret, { fr := [(3, .ptr 48 0 0 0), (4, .sref 1616 0 0 (m.map (mkV true Lease_tfs)).length), (6, .sref 880 0 0 (l.map (mkV true Lease_tfs)).length)], bs := if z = true then [(48, boxB (Tu.mk Lease_tfs t)), (880, rowL l), (1440, deadL), (1552, deadL), (1616, rowL m)] else [(48, boxB (Tu.mk Lease_tfs t)), (880, rowL l), (1440, deadL), (1504, deadL), (1552, deadL), (1616, rowL m)], df := [] })
def g2n (l : List Lease_T) (t : Lease_T) : Ex × St := (.exit 2, { fr := [(3, .ptr 48 0 0 0), (6, .sref 880 0 0 (l.map (mkV true Lease_tfs)).length)], bs := [(48, boxB (Tu.mk Lease_tfs t)), (880, rowL l)], df := [] })
theorem gby : Try.prog.bytesOf 57 = 32 := by kernel_rfl
theorem gfit {n : Nat} (h : n ≤ 1000000) : bytesFit Try.prog 57 n = true := by
 simp only [bytesFit, gby, decide_eq_true_eq]; omega
theorem all4 (l : List Lease_T) : (l.map (mkV true Lease_tfs)).all (fun y : AV => decide (y.cells.length = 4)) = true := by
 rw [List.all_eq_true]
 intro y hy
 obtain ⟨a, _, rfl⟩ := List.mem_map.1 hy
 rfl
theorem ldF (l : List Lease_T) (i : Nat) (h : i < l.length) : ldRow [Lf.fi .i64] (l.map (mkV true Lease_tfs)) i 1 = some l[i].2.1 := by
 simp [ldRow, h, ldCells, mkV, mkA, AV.cells, Tu.mk, Lf.mk, Tu.dec, Lf.dec]
theorem ldC (l : List Lease_T) (i : Nat) (h : i < l.length) : ldRow [Lf.fi .i64] (l.map (mkV true Lease_tfs)) i 0 = some l[i].1 := by
 simp [ldRow, h, ldCells, mkV, mkA, AV.cells, Tu.mk, Lf.mk, Tu.dec, Lf.dec]
theorem isE {l : List Lease_T} (h : l ≠ []) : (l.map (mkV true Lease_tfs)).isEmpty = false := by
 cases l with
 | nil => exact absurd rfl h
 | cons a r => rfl
theorem g2y0 (l : List Lease_T) (t : Lease_T) (hi : 0 < l.length) : (some (.inr (.ret, { fr := [(3, .ptr 48 0 0 0), (4, .sref 1616 0 0 (1 + (l.length - 0))), (6, .sref 880 0 0 l.length)], bs := [(48, boxB (Tu.mk Lease_tfs t)), (880, rowL l), (1440, deadL), (1552, deadL), (1616, { v := 0, k := .row, fz := false, sz := 4, es := mkV true Lease_tfs t :: (l.drop 0).map (mkV true Lease_tfs) })], df := [] })) : Option (St ⊕ (Ex × St))) = some (.inr (g2y l (insF l t 0) t (decide (0 = 0)))) := by
 unfold g2y
 rw [if_pos (decide_eq_true rfl)]
 simp only [insF, List.length_map, List.take_zero, List.nil_append, List.length_cons, List.drop_zero, rowL, List.map_cons, Nat.sub_zero, Nat.add_comm 1]
theorem g2y1 (l : List Lease_T) (t : Lease_T) (i : Nat) (hi : i < l.length) (h0 : ¬ i = 0) : (some (.inr (.ret, { fr := [(3, .ptr 48 0 0 0), (4, .sref 1616 0 0 (i + 1 + (l.length - i))), (6, .sref 880 0 0 l.length)], bs := [(48, boxB (Tu.mk Lease_tfs t)), (880, rowL l), (1440, deadL), (1504, deadL), (1552, deadL), (1616, { v := 0, k := .row, fz := false, sz := 4, es := List.take (i + 1) (List.take i ((l.take i).map (mkV true Lease_tfs)) ++ [mkV true Lease_tfs t]) ++ (l.drop i).map (mkV true Lease_tfs) })], df := [] })) : Option (St ⊕ (Ex × St))) = some (.inr (g2y l (insF l t i) t (decide (i = 0)))) := by
 unfold g2y
 rw [if_neg (by simpa using h0)]
 have hA : (l.take i).length = i := by rw [List.length_take]; omega
 have e1 : List.take i ((l.take i).map (mkV true Lease_tfs)) = (l.take i).map (mkV true Lease_tfs) := List.take_of_length_le (by rw [List.length_map, hA]; omega)
 have e2 : List.take (i + 1) ((l.take i).map (mkV true Lease_tfs) ++ [mkV true Lease_tfs t]) = (l.take i).map (mkV true Lease_tfs) ++ [mkV true Lease_tfs t] := List.take_of_length_le (by simp only [List.length_append, List.length_map, hA, List.length_cons, List.length_nil]; omega)
 have e3 : ((insF l t i).map (mkV true Lease_tfs)).length = i + 1 + (l.length - i) := by simp only [insF, List.length_map, List.length_append, List.length_cons, List.length_take, List.length_drop]; omega
 rw [e1, e2, e3]
 simp only [rowL, insF, List.map_append, List.map_cons, List.append_assoc, List.singleton_append, List.length_map]
theorem g2_e (l : List Lease_T) (t : Lease_T) (i : Nat) (hi : i < l.length) (hl : l.length ≤ 100000) : g2_s l t i = if behF t l[i] = true then some (.inr (g2y l (insF l t i) t (decide (i = 0)))) else some (.inl (g2h l t ((i + 1 : Nat) : Int))) := by
 refine (g2_s_w l t i).trans ?_
 unfold g2_s_r
 have e1 : IntKind.i64.wrap ((i : Int) + 1) = ((i + 1 : Nat) : Int) := by rw [w64 (by omega) (by omega)]; omega
 have eA : List.take i (l.map (mkV true Lease_tfs)) = (l.take i).map (mkV true Lease_tfs) := List.map_take.symm
 have eB : List.take (l.length - i) (List.drop i (l.map (mkV true Lease_tfs))) = (l.drop i).map (mkV true Lease_tfs) := by
  rw [← List.map_drop, List.take_of_length_le (by simp)]
 have hA : (l.take i).length = i := by rw [List.length_take]; omega
 have hB : l.drop i ≠ [] := by intro h; have := congrArg List.length h; simp at this; omega
 have hBl : (l.drop i).length = l.length - i := by simp
 rw [e1]
 simp only [Int.toNat_natCast, Nat.zero_add, Nat.sub_zero, List.drop_zero, List.nil_append, List.length_map, eA, eB, all4, isE hB, hA, hBl, ldF l i hi, ldC l i hi]
 have yes : behF t l[i] = true → ∀ z : Option (St ⊕ (Ex × St)), z = some (.inr (g2y l (insF l t i) t (decide (i = 0)))) → z = if behF t l[i] = true then some (.inr (g2y l (insF l t i) t (decide (i = 0)))) else some (.inl (g2h l t ((i + 1 : Nat) : Int))) := fun h z hz => by rw [if_pos h]; exact hz
 have no : behF t l[i] = false → ∀ z : Option (St ⊕ (Ex × St)), z = some (.inl (g2h l t ((i + 1 : Nat) : Int))) → z = if behF t l[i] = true then some (.inr (g2y l (insF l t i) t (decide (i = 0)))) else some (.inl (g2h l t ((i + 1 : Nat) : Int))) := fun h z hz => by rw [if_neg (by rw [h]; simp)]; exact hz
 refine bK_tq (Q := (· = _)) (by simp) (bK_tq (Q := (· = _)) (decide_eq_true (by omega)) (bK_tq (Q := (· = _)) (decide_eq_true (by omega)) (bK_tq (Q := (· = _)) (decide_eq_true (by omega)) ?_)))
 rw [oK_some]
 -- GTAIL
 refine bK_iq (Q := (· = _)) (fun c1 => ?_) (fun c1 => ?_)
 ·refine yes (by simp [behF, c1]) _ ?_
  by_cases h0 : i = 0
  ·subst h0
   refine bK_tq (Q := (· = _)) (by first | exact decide_eq_true (by omega) | exact all4 _ | (rw [Bool.true_and]; exact gfit (by first | omega | (simp only [List.length_take]; omega))) | (simp; done) | (simp; omega) | (rw [Bool.and_eq_true]; exact ⟨by first | (simp; done) | (simp; omega), gfit (by first | omega | (simp only [List.length_take]; omega))⟩)) ?_
   refine bK_tq (Q := (· = _)) (by first | exact decide_eq_true (by omega) | exact all4 _ | (rw [Bool.true_and]; exact gfit (by first | omega | (simp only [List.length_take]; omega))) | (simp; done) | (simp; omega) | (rw [Bool.and_eq_true]; exact ⟨by first | (simp; done) | (simp; omega), gfit (by first | omega | (simp only [List.length_take]; omega))⟩)) ?_
   refine bK_tq (Q := (· = _)) (by first | exact decide_eq_true (by omega) | exact all4 _ | (rw [Bool.true_and]; exact gfit (by first | omega | (simp only [List.length_take]; omega))) | (simp; done) | (simp; omega) | (rw [Bool.and_eq_true]; exact ⟨by first | (simp; done) | (simp; omega), gfit (by first | omega | (simp only [List.length_take]; omega))⟩)) ?_
   refine bK_tq (Q := (· = _)) (by first | exact decide_eq_true (by omega) | exact all4 _ | (rw [Bool.true_and]; exact gfit (by first | omega | (simp only [List.length_take]; omega))) | (simp; done) | (simp; omega) | (rw [Bool.and_eq_true]; exact ⟨by first | (simp; done) | (simp; omega), gfit (by first | omega | (simp only [List.length_take]; omega))⟩)) ?_
   refine bK_tq (Q := (· = _)) rfl ?_
   refine bK_tq (Q := (· = _)) (by first | exact decide_eq_true (by omega) | exact all4 _ | (rw [Bool.true_and]; exact gfit (by first | omega | (simp only [List.length_take]; omega))) | (simp; done) | (simp; omega) | (rw [Bool.and_eq_true]; exact ⟨by first | (simp; done) | (simp; omega), gfit (by first | omega | (simp only [List.length_take]; omega))⟩)) ?_
   refine bK_tq (Q := (· = _)) (by first | exact decide_eq_true (by omega) | exact all4 _ | (rw [Bool.true_and]; exact gfit (by first | omega | (simp only [List.length_take]; omega))) | (simp; done) | (simp; omega) | (rw [Bool.and_eq_true]; exact ⟨by first | (simp; done) | (simp; omega), gfit (by first | omega | (simp only [List.length_take]; omega))⟩)) ?_
   refine bK_tq (Q := (· = _)) (by first | exact decide_eq_true (by omega) | exact all4 _ | (rw [Bool.true_and]; exact gfit (by first | omega | (simp only [List.length_take]; omega))) | (simp; done) | (simp; omega) | (rw [Bool.and_eq_true]; exact ⟨by first | (simp; done) | (simp; omega), gfit (by first | omega | (simp only [List.length_take]; omega))⟩)) ?_
   refine bK_tq (Q := (· = _)) (by first | exact decide_eq_true (by omega) | exact all4 _ | (rw [Bool.true_and]; exact gfit (by first | omega | (simp only [List.length_take]; omega))) | (simp; done) | (simp; omega) | (rw [Bool.and_eq_true]; exact ⟨by first | (simp; done) | (simp; omega), gfit (by first | omega | (simp only [List.length_take]; omega))⟩)) ?_
   refine bK_tq (Q := (· = _)) (by first | exact decide_eq_true (by omega) | exact all4 _ | (rw [Bool.true_and]; exact gfit (by first | omega | (simp only [List.length_take]; omega))) | (simp; done) | (simp; omega) | (rw [Bool.and_eq_true]; exact ⟨by first | (simp; done) | (simp; omega), gfit (by first | omega | (simp only [List.length_take]; omega))⟩)) ?_
   refine bK_fq (Q := (· = _)) rfl ?_
   refine bK_tq (Q := (· = _)) (by first | exact decide_eq_true (by omega) | exact all4 _ | (rw [Bool.true_and]; exact gfit (by first | omega | (simp only [List.length_take]; omega))) | (simp; done) | (simp; omega) | (rw [Bool.and_eq_true]; exact ⟨by first | (simp; done) | (simp; omega), gfit (by first | omega | (simp only [List.length_take]; omega))⟩)) ?_
   exact g2y0 l t hi
  ·have hA0 : l.take i ≠ [] := by intro h; have := congrArg List.length h; rw [hA] at this; exact h0 this
   refine bK_tq (Q := (· = _)) (by first | exact decide_eq_true (by omega) | exact all4 _ | (rw [Bool.true_and]; exact gfit (by first | omega | (simp only [List.length_take]; omega))) | (simp; done) | (simp; omega) | (rw [Bool.and_eq_true]; exact ⟨by first | (simp; done) | (simp; omega), gfit (by first | omega | (simp only [List.length_take]; omega))⟩)) ?_
   refine bK_tq (Q := (· = _)) (by first | exact decide_eq_true (by omega) | exact all4 _ | (rw [Bool.true_and]; exact gfit (by first | omega | (simp only [List.length_take]; omega))) | (simp; done) | (simp; omega) | (rw [Bool.and_eq_true]; exact ⟨by first | (simp; done) | (simp; omega), gfit (by first | omega | (simp only [List.length_take]; omega))⟩)) ?_
   refine bK_tq (Q := (· = _)) (by first | exact decide_eq_true (by omega) | exact all4 _ | (rw [Bool.true_and]; exact gfit (by first | omega | (simp only [List.length_take]; omega))) | (simp; done) | (simp; omega) | (rw [Bool.and_eq_true]; exact ⟨by first | (simp; done) | (simp; omega), gfit (by first | omega | (simp only [List.length_take]; omega))⟩)) ?_
   refine bK_tq (Q := (· = _)) (by first | exact decide_eq_true (by omega) | exact all4 _ | (rw [Bool.true_and]; exact gfit (by first | omega | (simp only [List.length_take]; omega))) | (simp; done) | (simp; omega) | (rw [Bool.and_eq_true]; exact ⟨by first | (simp; done) | (simp; omega), gfit (by first | omega | (simp only [List.length_take]; omega))⟩)) ?_
   refine bK_fq (Q := (· = _)) (isE hA0) ?_
   refine bK_tq (Q := (· = _)) (by first | exact decide_eq_true (by omega) | exact all4 _ | (rw [Bool.true_and]; exact gfit (by first | omega | (simp only [List.length_take]; omega))) | (simp; done) | (simp; omega) | (rw [Bool.and_eq_true]; exact ⟨by first | (simp; done) | (simp; omega), gfit (by first | omega | (simp only [List.length_take]; omega))⟩)) ?_
   refine bK_tq (Q := (· = _)) (by first | exact decide_eq_true (by omega) | exact all4 _ | (rw [Bool.true_and]; exact gfit (by first | omega | (simp only [List.length_take]; omega))) | (simp; done) | (simp; omega) | (rw [Bool.and_eq_true]; exact ⟨by first | (simp; done) | (simp; omega), gfit (by first | omega | (simp only [List.length_take]; omega))⟩)) ?_
   refine bK_tq (Q := (· = _)) (by first | exact decide_eq_true (by omega) | exact all4 _ | (rw [Bool.true_and]; exact gfit (by first | omega | (simp only [List.length_take]; omega))) | (simp; done) | (simp; omega) | (rw [Bool.and_eq_true]; exact ⟨by first | (simp; done) | (simp; omega), gfit (by first | omega | (simp only [List.length_take]; omega))⟩)) ?_
   refine bK_tq (Q := (· = _)) (by first | exact decide_eq_true (by omega) | exact all4 _ | (rw [Bool.true_and]; exact gfit (by first | omega | (simp only [List.length_take]; omega))) | (simp; done) | (simp; omega) | (rw [Bool.and_eq_true]; exact ⟨by first | (simp; done) | (simp; omega), gfit (by first | omega | (simp only [List.length_take]; omega))⟩)) ?_
   refine bK_tq (Q := (· = _)) (by first | exact decide_eq_true (by omega) | exact all4 _ | (rw [Bool.true_and]; exact gfit (by first | omega | (simp only [List.length_take]; omega))) | (simp; done) | (simp; omega) | (rw [Bool.and_eq_true]; exact ⟨by first | (simp; done) | (simp; omega), gfit (by first | omega | (simp only [List.length_take]; omega))⟩)) ?_
   refine bK_tq (Q := (· = _)) (by first | exact decide_eq_true (by omega) | exact all4 _ | (rw [Bool.true_and]; exact gfit (by first | omega | (simp only [List.length_take]; omega))) | (simp; done) | (simp; omega) | (rw [Bool.and_eq_true]; exact ⟨by first | (simp; done) | (simp; omega), gfit (by first | omega | (simp only [List.length_take]; omega))⟩)) ?_
   refine bK_tq (Q := (· = _)) (by first | exact decide_eq_true (by omega) | exact all4 _ | (rw [Bool.true_and]; exact gfit (by first | omega | (simp only [List.length_take]; omega))) | (simp; done) | (simp; omega) | (rw [Bool.and_eq_true]; exact ⟨by first | (simp; done) | (simp; omega), gfit (by first | omega | (simp only [List.length_take]; omega))⟩)) ?_
   refine bK_tq (Q := (· = _)) (by first | exact decide_eq_true (by omega) | exact all4 _ | (rw [Bool.true_and]; exact gfit (by first | omega | (simp only [List.length_take]; omega))) | (simp; done) | (simp; omega) | (rw [Bool.and_eq_true]; exact ⟨by first | (simp; done) | (simp; omega), gfit (by first | omega | (simp only [List.length_take]; omega))⟩)) ?_
   refine bK_tq (Q := (· = _)) (by first | exact decide_eq_true (by omega) | exact all4 _ | (rw [Bool.true_and]; exact gfit (by first | omega | (simp only [List.length_take]; omega))) | (simp; done) | (simp; omega) | (rw [Bool.and_eq_true]; exact ⟨by first | (simp; done) | (simp; omega), gfit (by first | omega | (simp only [List.length_take]; omega))⟩)) ?_
   refine bK_fq (Q := (· = _)) rfl ?_
   refine bK_tq (Q := (· = _)) (by first | exact decide_eq_true (by omega) | exact all4 _ | (rw [Bool.true_and]; exact gfit (by first | omega | (simp only [List.length_take]; omega))) | (simp; done) | (simp; omega) | (rw [Bool.and_eq_true]; exact ⟨by first | (simp; done) | (simp; omega), gfit (by first | omega | (simp only [List.length_take]; omega))⟩)) ?_
   exact g2y1 l t i hi h0
 ·refine bK_tq (Q := (· = _)) (decide_eq_true (by omega)) (bK_tq (Q := (· = _)) (decide_eq_true (by omega)) ?_)
  rw [oK_some]
  refine bK_iq (Q := (· = _)) (fun c2 => ?_) (fun c2 => ?_)
  ·refine bK_tq (Q := (· = _)) (decide_eq_true (by omega)) (bK_tq (Q := (· = _)) (decide_eq_true (by omega)) ?_)
   rw [oK_some]
   refine bK_iq (Q := (· = _)) (fun c3 => ?_) (fun c3 => ?_)
   ·refine yes (by simp [behF, c2, c3]) _ ?_
    by_cases h0 : i = 0
    ·subst h0
     refine bK_tq (Q := (· = _)) (by first | exact decide_eq_true (by omega) | exact all4 _ | (rw [Bool.true_and]; exact gfit (by first | omega | (simp only [List.length_take]; omega))) | (simp; done) | (simp; omega) | (rw [Bool.and_eq_true]; exact ⟨by first | (simp; done) | (simp; omega), gfit (by first | omega | (simp only [List.length_take]; omega))⟩)) ?_
     refine bK_tq (Q := (· = _)) (by first | exact decide_eq_true (by omega) | exact all4 _ | (rw [Bool.true_and]; exact gfit (by first | omega | (simp only [List.length_take]; omega))) | (simp; done) | (simp; omega) | (rw [Bool.and_eq_true]; exact ⟨by first | (simp; done) | (simp; omega), gfit (by first | omega | (simp only [List.length_take]; omega))⟩)) ?_
     refine bK_tq (Q := (· = _)) (by first | exact decide_eq_true (by omega) | exact all4 _ | (rw [Bool.true_and]; exact gfit (by first | omega | (simp only [List.length_take]; omega))) | (simp; done) | (simp; omega) | (rw [Bool.and_eq_true]; exact ⟨by first | (simp; done) | (simp; omega), gfit (by first | omega | (simp only [List.length_take]; omega))⟩)) ?_
     refine bK_tq (Q := (· = _)) (by first | exact decide_eq_true (by omega) | exact all4 _ | (rw [Bool.true_and]; exact gfit (by first | omega | (simp only [List.length_take]; omega))) | (simp; done) | (simp; omega) | (rw [Bool.and_eq_true]; exact ⟨by first | (simp; done) | (simp; omega), gfit (by first | omega | (simp only [List.length_take]; omega))⟩)) ?_
     refine bK_tq (Q := (· = _)) rfl ?_
     refine bK_tq (Q := (· = _)) (by first | exact decide_eq_true (by omega) | exact all4 _ | (rw [Bool.true_and]; exact gfit (by first | omega | (simp only [List.length_take]; omega))) | (simp; done) | (simp; omega) | (rw [Bool.and_eq_true]; exact ⟨by first | (simp; done) | (simp; omega), gfit (by first | omega | (simp only [List.length_take]; omega))⟩)) ?_
     refine bK_tq (Q := (· = _)) (by first | exact decide_eq_true (by omega) | exact all4 _ | (rw [Bool.true_and]; exact gfit (by first | omega | (simp only [List.length_take]; omega))) | (simp; done) | (simp; omega) | (rw [Bool.and_eq_true]; exact ⟨by first | (simp; done) | (simp; omega), gfit (by first | omega | (simp only [List.length_take]; omega))⟩)) ?_
     refine bK_tq (Q := (· = _)) (by first | exact decide_eq_true (by omega) | exact all4 _ | (rw [Bool.true_and]; exact gfit (by first | omega | (simp only [List.length_take]; omega))) | (simp; done) | (simp; omega) | (rw [Bool.and_eq_true]; exact ⟨by first | (simp; done) | (simp; omega), gfit (by first | omega | (simp only [List.length_take]; omega))⟩)) ?_
     refine bK_tq (Q := (· = _)) (by first | exact decide_eq_true (by omega) | exact all4 _ | (rw [Bool.true_and]; exact gfit (by first | omega | (simp only [List.length_take]; omega))) | (simp; done) | (simp; omega) | (rw [Bool.and_eq_true]; exact ⟨by first | (simp; done) | (simp; omega), gfit (by first | omega | (simp only [List.length_take]; omega))⟩)) ?_
     refine bK_tq (Q := (· = _)) (by first | exact decide_eq_true (by omega) | exact all4 _ | (rw [Bool.true_and]; exact gfit (by first | omega | (simp only [List.length_take]; omega))) | (simp; done) | (simp; omega) | (rw [Bool.and_eq_true]; exact ⟨by first | (simp; done) | (simp; omega), gfit (by first | omega | (simp only [List.length_take]; omega))⟩)) ?_
     refine bK_fq (Q := (· = _)) rfl ?_
     refine bK_tq (Q := (· = _)) (by first | exact decide_eq_true (by omega) | exact all4 _ | (rw [Bool.true_and]; exact gfit (by first | omega | (simp only [List.length_take]; omega))) | (simp; done) | (simp; omega) | (rw [Bool.and_eq_true]; exact ⟨by first | (simp; done) | (simp; omega), gfit (by first | omega | (simp only [List.length_take]; omega))⟩)) ?_
     exact g2y0 l t hi
    ·have hA0 : l.take i ≠ [] := by intro h; have := congrArg List.length h; rw [hA] at this; exact h0 this
     refine bK_tq (Q := (· = _)) (by first | exact decide_eq_true (by omega) | exact all4 _ | (rw [Bool.true_and]; exact gfit (by first | omega | (simp only [List.length_take]; omega))) | (simp; done) | (simp; omega) | (rw [Bool.and_eq_true]; exact ⟨by first | (simp; done) | (simp; omega), gfit (by first | omega | (simp only [List.length_take]; omega))⟩)) ?_
     refine bK_tq (Q := (· = _)) (by first | exact decide_eq_true (by omega) | exact all4 _ | (rw [Bool.true_and]; exact gfit (by first | omega | (simp only [List.length_take]; omega))) | (simp; done) | (simp; omega) | (rw [Bool.and_eq_true]; exact ⟨by first | (simp; done) | (simp; omega), gfit (by first | omega | (simp only [List.length_take]; omega))⟩)) ?_
     refine bK_tq (Q := (· = _)) (by first | exact decide_eq_true (by omega) | exact all4 _ | (rw [Bool.true_and]; exact gfit (by first | omega | (simp only [List.length_take]; omega))) | (simp; done) | (simp; omega) | (rw [Bool.and_eq_true]; exact ⟨by first | (simp; done) | (simp; omega), gfit (by first | omega | (simp only [List.length_take]; omega))⟩)) ?_
     refine bK_tq (Q := (· = _)) (by first | exact decide_eq_true (by omega) | exact all4 _ | (rw [Bool.true_and]; exact gfit (by first | omega | (simp only [List.length_take]; omega))) | (simp; done) | (simp; omega) | (rw [Bool.and_eq_true]; exact ⟨by first | (simp; done) | (simp; omega), gfit (by first | omega | (simp only [List.length_take]; omega))⟩)) ?_
     refine bK_fq (Q := (· = _)) (isE hA0) ?_
     refine bK_tq (Q := (· = _)) (by first | exact decide_eq_true (by omega) | exact all4 _ | (rw [Bool.true_and]; exact gfit (by first | omega | (simp only [List.length_take]; omega))) | (simp; done) | (simp; omega) | (rw [Bool.and_eq_true]; exact ⟨by first | (simp; done) | (simp; omega), gfit (by first | omega | (simp only [List.length_take]; omega))⟩)) ?_
     refine bK_tq (Q := (· = _)) (by first | exact decide_eq_true (by omega) | exact all4 _ | (rw [Bool.true_and]; exact gfit (by first | omega | (simp only [List.length_take]; omega))) | (simp; done) | (simp; omega) | (rw [Bool.and_eq_true]; exact ⟨by first | (simp; done) | (simp; omega), gfit (by first | omega | (simp only [List.length_take]; omega))⟩)) ?_
     refine bK_tq (Q := (· = _)) (by first | exact decide_eq_true (by omega) | exact all4 _ | (rw [Bool.true_and]; exact gfit (by first | omega | (simp only [List.length_take]; omega))) | (simp; done) | (simp; omega) | (rw [Bool.and_eq_true]; exact ⟨by first | (simp; done) | (simp; omega), gfit (by first | omega | (simp only [List.length_take]; omega))⟩)) ?_
     refine bK_tq (Q := (· = _)) (by first | exact decide_eq_true (by omega) | exact all4 _ | (rw [Bool.true_and]; exact gfit (by first | omega | (simp only [List.length_take]; omega))) | (simp; done) | (simp; omega) | (rw [Bool.and_eq_true]; exact ⟨by first | (simp; done) | (simp; omega), gfit (by first | omega | (simp only [List.length_take]; omega))⟩)) ?_
     refine bK_tq (Q := (· = _)) (by first | exact decide_eq_true (by omega) | exact all4 _ | (rw [Bool.true_and]; exact gfit (by first | omega | (simp only [List.length_take]; omega))) | (simp; done) | (simp; omega) | (rw [Bool.and_eq_true]; exact ⟨by first | (simp; done) | (simp; omega), gfit (by first | omega | (simp only [List.length_take]; omega))⟩)) ?_
     refine bK_tq (Q := (· = _)) (by first | exact decide_eq_true (by omega) | exact all4 _ | (rw [Bool.true_and]; exact gfit (by first | omega | (simp only [List.length_take]; omega))) | (simp; done) | (simp; omega) | (rw [Bool.and_eq_true]; exact ⟨by first | (simp; done) | (simp; omega), gfit (by first | omega | (simp only [List.length_take]; omega))⟩)) ?_
     refine bK_tq (Q := (· = _)) (by first | exact decide_eq_true (by omega) | exact all4 _ | (rw [Bool.true_and]; exact gfit (by first | omega | (simp only [List.length_take]; omega))) | (simp; done) | (simp; omega) | (rw [Bool.and_eq_true]; exact ⟨by first | (simp; done) | (simp; omega), gfit (by first | omega | (simp only [List.length_take]; omega))⟩)) ?_
     refine bK_tq (Q := (· = _)) (by first | exact decide_eq_true (by omega) | exact all4 _ | (rw [Bool.true_and]; exact gfit (by first | omega | (simp only [List.length_take]; omega))) | (simp; done) | (simp; omega) | (rw [Bool.and_eq_true]; exact ⟨by first | (simp; done) | (simp; omega), gfit (by first | omega | (simp only [List.length_take]; omega))⟩)) ?_
     refine bK_tq (Q := (· = _)) (by first | exact decide_eq_true (by omega) | exact all4 _ | (rw [Bool.true_and]; exact gfit (by first | omega | (simp only [List.length_take]; omega))) | (simp; done) | (simp; omega) | (rw [Bool.and_eq_true]; exact ⟨by first | (simp; done) | (simp; omega), gfit (by first | omega | (simp only [List.length_take]; omega))⟩)) ?_
     refine bK_fq (Q := (· = _)) rfl ?_
     refine bK_tq (Q := (· = _)) (by first | exact decide_eq_true (by omega) | exact all4 _ | (rw [Bool.true_and]; exact gfit (by first | omega | (simp only [List.length_take]; omega))) | (simp; done) | (simp; omega) | (rw [Bool.and_eq_true]; exact ⟨by first | (simp; done) | (simp; omega), gfit (by first | omega | (simp only [List.length_take]; omega))⟩)) ?_
     exact g2y1 l t i hi h0
   ·refine no (by simp [behF, c1, c3]) _ ?_
    simp only [g2h, List.length_map]
    rfl
  ·refine no (by simp [behF, c1, c2]) _ ?_
   simp only [g2h, List.length_map]
   rfl

end Go.Proofs.Ytkanmigbbpppnaa
