/- A part of the proof: contracts of functions. -/
import Derived.Test.YtkanmigbbpppnaaE
import Derived.Test.YtkanmigbbpppnaaI
import Derived.Test.YtkanmigbbpppnaaAbAny

set_option linter.unusedVariables false
set_option linter.unusedSimpArgs false
set_option maxRecDepth 100000
namespace Go.Proofs.Ytkanmigbbpppnaa
open Go Go.Ab
def inA (d : List Lease_T × Lease_T × Int) : List AV × List Blk := ([.sref outBase 0 0 (d.1.map (mkV true Lease_tfs)).length, .int .i64 d.2.2, .sref (outBase + 1) 0 0 1], [rowL d.1, rowL [d.2.1]])
theorem inA_inj (d d' : List Lease_T × Lease_T × Int) (h : inA d = inA d') : d = d' := by
 obtain ⟨l, t, i⟩ := d
 obtain ⟨l', t', i'⟩ := d'
 simp only [inA, rowL, List.cons.injEq, Prod.mk.injEq, AV.int.injEq, Blk.mk.injEq, and_true, true_and] at h
 obtain ⟨⟨_, h1⟩, h2, h3⟩ := h
 rw [map_inj (fs := Lease_tfs) rfl h2, h1]
 have := map_inj (fs := Lease_tfs) (l := [t]) (l' := [t']) rfl h3
 rw [List.cons.inj this |>.1]
def insL (l : List Lease_T) (t : Lease_T) (i : Int) : List Lease_T := insF l t i.toNat
noncomputable def inP : PK := PK.of inA (fun d => 1 ≤ d.1.length ∧ d.1.length ≤ 100000 ∧ 0 ≤ d.2.2 ∧ d.2.2 ≤ d.1.length) fun d => .leaf { pan := false, res := .sref newBase 0 0 ((insL d.1 d.2.1 d.2.2).map (mkV true Lease_tfs)).length, out := [deadL, rowL [d.2.1]], new := [rowL (insL d.1 d.2.1 d.2.2)] }
noncomputable def inu (l : List Lease_T) (t : Lease_T) : Option Ret := unitQ Try.prog cfg PKz LP0 true 61 (inA (l, t, ((l.map (mkV true Lease_tfs)).length : Nat))).1 (inA (l, t, ((l.map (mkV true Lease_tfs)).length : Nat))).2
noncomputable def inu_r (l : List Lease_T) (t : Lease_T) : Option Ret :=
 bK (decide ((↑(mW l).length : Int).toNat ≤ (mW l).length ∧ 0 + (mW l).length ≤ (mW l).length))
 (bK (decide ((↑(mW l).length : Int).toNat = 0 ∨ 0 + (↑(mW l).length : Int).toNat < (mW l).length))
 (bK (decide (0 + (mW l).length ≤ (mW l).length))
 (bK (decide ((↑(mW l).length : Int) = (↑(mW l).length : Int)))
 (bK (decide (0 + (mW l).length ≤ (mW l).length))
 (bK (decide (0 = 0 ∧ (mW l).length = (mW l).length) && bytesFit Try.prog 57 ((mW l).length + 1)) (some { pan := false, res := .sref 2000000 0 0 ((mW l).length + 1), out := [{ v := 0, k := .dead, fz := false, sz := 4, es := [] }, { v := 0, k := .row, fz := false, sz := 4, es := [AV.agg [i6 t.1, i6 t.2.1, i6 t.2.2.1, i6 t.2.2.2]] }], new := [{ v := 0, k := .row, fz := false, sz := 4, es := List.take (mW l).length (mW l) ++ [AV.agg [i6 t.1, i6 t.2.1, i6 t.2.2.1, i6 t.2.2.2]] }] })
 (bK (decide (0 + (mW l).length + 1 ≤ (mW l).length)) (some { pan := false, res := .sref 1000000 0 0 ((mW l).length + 1), out := [{ v := 0, k := .row, fz := false, sz := 4, es := List.take (0 + (mW l).length) (mW l) ++ AV.agg [i6 t.1, i6 t.2.1, i6 t.2.2.1, i6 t.2.2.2] :: List.append._f [] PUnit.unit (List.drop (0 + (mW l).length + 1) (mW l)) }, { v := 0, k := .row, fz := false, sz := 4, es := [AV.agg [i6 t.1, i6 t.2.1, i6 t.2.2.1, i6 t.2.2.2]] }], new := [] }) none))
 none)
 none)
 none)
 (bK (decide (0 + (mW l).length ≤ (mW l).length))
 (bK (decide ((↑(mW l).length : Int) = (↑(mW l).length : Int)))
 (bK (decide (0 + (mW l).length ≤ (mW l).length))
 (bK (decide (0 = 0 ∧ (mW l).length = (mW l).length) && bytesFit Try.prog 57 ((mW l).length + 1)) (some { pan := false, res := .sref 2000000 0 0 ((mW l).length + 1), out := [{ v := 0, k := .dead, fz := false, sz := 4, es := [] }, { v := 0, k := .row, fz := false, sz := 4, es := [AV.agg [i6 t.1, i6 t.2.1, i6 t.2.2.1, i6 t.2.2.2]] }], new := [{ v := 0, k := .row, fz := false, sz := 4, es := List.take (mW l).length (mW l) ++ [AV.agg [i6 t.1, i6 t.2.1, i6 t.2.2.1, i6 t.2.2.2]] }] })
 (bK (decide (0 + (mW l).length + 1 ≤ (mW l).length)) (some { pan := false, res := .sref 1000000 0 0 ((mW l).length + 1), out := [{ v := 0, k := .row, fz := false, sz := 4, es := List.take (0 + (mW l).length) (mW l) ++ AV.agg [i6 t.1, i6 t.2.1, i6 t.2.2.1, i6 t.2.2.2] :: List.append._f [] PUnit.unit (List.drop (0 + (mW l).length + 1) (mW l)) }, { v := 0, k := .row, fz := false, sz := 4, es := [AV.agg [i6 t.1, i6 t.2.1, i6 t.2.2.1, i6 t.2.2.2]] }], new := [] }) none))
 none)
 none)
 none))
 none
theorem inu_w (l : List Lease_T) (t : Lease_T) : inu l t = inu_r l t := by kernel_rfl

noncomputable def gran0 (x : Bool) (t : Lease_T) : Option Ret := unitQ Try.prog cfg PKs0 LP0 false 49 [.slc x [], .agg (Tu.mk Lease_tfs t)] []
noncomputable def gran0_r (x : Bool) (t : Lease_T) : Option Ret :=
 some (rt (.slc false [AV.agg [i6 t.1, i6 t.2.1, i6 t.2.2.1, i6 t.2.2.2]]))
theorem gran0_w (x : Bool) (t : Lease_T) : gran0 x t = gran0_r x t := by kernel_rfl

noncomputable def G1 : PKs := clPK.add 59 bsP
noncomputable def G2 : PKs := G1.add 61 inP
abbrev gran_id : Nat := 49
abbrev gran_sh : Shp := [none, some 4]
abbrev gran_fs : List Lf := [.fl true Lease_tfs, .fi .i64, .fi .i64, .fi .i64, .fi .i64]
abbrev gran_rsh : Shp := [none]
abbrev gran_rfs : List Lf := [.fl true Lease_tfs]
noncomputable def gran_r (l_x : Bool) (l : List Lease_T) (x_Client : Int) (x_File : Int) (x_Mode : Int) (x_Until : Int) : Option Ret :=
 oK (clP.dec [sl l_x l] []) fun (d0 : Bool × List Wait_T) =>
 bK (decide (0 + (mW d0.2).length ≤ (mW d0.2).length))
 (oK (bsP.dec [.slc false (List.take (mW d0.2).length (List.drop 0 (mW d0.2))), AV.agg [i6 x_Client, i6 x_File, i6 x_Mode, i6 x_Until], .fn 60 [] []] []) fun (d1 : LW × Int × Int × Int × Int) =>
 bK (!bsI d1.1.2 d1.2) (oK (inP.dec [.sref 1000000 0 0 (mW d0.2).length, i6 (bsQ d1.1.2 d1.2), .sref 1000001 0 0 1] [(rw4 d0.2), { v := 0, k := .row, fz := false, sz := 4, es := [AV.agg [i6 x_Client, i6 x_File, i6 x_Mode, i6 x_Until]] }]) fun (d2 : List Wait_T × (Int × Int × Int × Int) × Int) => bK (decide (0 + (mW (insL d2.1 d2.2.1 d2.2.2)).length ≤ (mW (insL d2.1 d2.2.1 d2.2.2)).length)) (some (rt (.slc false (List.take (mW (insL d2.1 d2.2.1 d2.2.2)).length (List.drop 0 (mW (insL d2.1 d2.2.1 d2.2.2))))))) none)
 (bK (decide (0 ≤ bsQ d1.1.2 d1.2 ∧ bsQ d1.1.2 d1.2 < (↑(mW d0.2).length : Int)))
 (bK (decide (0 + (bsQ d1.1.2 d1.2).toNat < (mW d0.2).length)) (oK (ldRow I1_tfs (mW d0.2) (0 + (bsQ d1.1.2 d1.2).toNat) 2) fun (d3 : Int) => bK (decide (0 ≤ bsQ d1.1.2 d1.2 ∧ bsQ d1.1.2 d1.2 < (↑(mW d0.2).length : Int))) (bK (decide (0 + (bsQ d1.1.2 d1.2).toNat < (mW d0.2).length)) (oK (ldRow I1_tfs (mW d0.2) (0 + (bsQ d1.1.2 d1.2).toNat) 3) fun (d4 : Int) => bK (decide (0 ≤ bsQ d1.1.2 d1.2 ∧ bsQ d1.1.2 d1.2 < (↑(mW d0.2).length : Int))) (bK (decide (0 + (bsQ d1.1.2 d1.2).toNat < (mW d0.2).length)) (oK (stRow (mW d0.2) (0 + (bsQ d1.1.2 d1.2).toNat) 2 [i6 (maxI d3 x_Mode)]) fun (d5 : List AV) => bK (decide (0 ≤ bsQ d1.1.2 d1.2 ∧ bsQ d1.1.2 d1.2 < (↑(mW d0.2).length : Int))) (bK (decide (0 + (bsQ d1.1.2 d1.2).toNat < d5.length)) (oK (stRow d5 (0 + (bsQ d1.1.2 d1.2).toNat) 3 [i6 (maxI d4 x_Until)]) fun (d6 : List AV) => bK (decide (0 + (mW d0.2).length ≤ d6.length)) (some (rt (.slc false (List.take (mW d0.2).length (List.drop 0 d6))))) none) none) none) none) none) none) none) none) none))
 none
theorem gran_w (l_x : Bool) (l : List Lease_T) (x_Client : Int) (x_File : Int) (x_Mode : Int) (x_Until : Int) : unitQ Try.prog cfg G2 LP0 false 49 (groupA gran_sh (Tu.mk gran_fs ((l_x, l), x_Client, x_File, x_Mode, x_Until))) [] = gran_r l_x l x_Client x_File x_Mode x_Until := by kernel_rfl

theorem insL_len (l : List Lease_T) (t : Lease_T) (i : Int) : (insL l t i).length = l.length + 1 := by
 show (l.take i.toNat ++ t :: l.drop i.toNat).length = _
 simp only [List.length_append, List.length_take, List.length_cons, List.length_drop]
 omega
theorem inO (d : List Lease_T × Lease_T × Int) (h : 1 ≤ d.1.length ∧ d.1.length ≤ 100000 ∧ 0 ≤ d.2.2 ∧ d.2.2 ≤ d.1.length) : CallOk Try.prog 61 (inA d).1 (inA d).2 { pan := false, res := .sref newBase 0 0 ((insL d.1 d.2.1 d.2.2).map (mkV true Lease_tfs)).length, out := [deadL, rowL [d.2.1]], new := [rowL (insL d.1 d.2.1 d.2.2)] } := by
 obtain ⟨l, t, i⟩ := d
 obtain ⟨h1, h2, h3, h4⟩ := h
 simp only at h1 h2 h3 h4
 have hl := insL_len l t i
 have e0 : insL l t i = l.take i.toNat ++ t :: l.drop i.toNat := rfl
 by_cases hi : i < l.length
 ·have := insO (l.map (mkV true Lease_tfs)) [mkV true Lease_tfs t] i.toNat rfl (by rw [List.length_map]; omega) (by rw [List.length_map]; omega)
  rw [Int.toNat_of_nonneg h3] at this
  have e1 : (l.map (mkV true Lease_tfs)).take i.toNat ++ ([mkV true Lease_tfs t] ++ (l.map (mkV true Lease_tfs)).drop i.toNat) = (insL l t i).map (mkV true Lease_tfs) := by
   rw [e0, List.map_append, List.map_cons, List.map_take, List.map_drop]; rfl
  have e2 : (l.map (mkV true Lease_tfs)).length + 1 = ((insL l t i).map (mkV true Lease_tfs)).length := by rw [List.length_map, List.length_map, hl]
  rw [e1, e2] at this
  exact this
 ·have hi' : i = ((l.map (mkV true Lease_tfs)).length : Nat) := by rw [List.length_map]; omega
  have e1 : insL l t i = l ++ [t] := by
   rw [e0, List.take_of_length_le (by omega), List.drop_of_length_le (by omega)]
  have key : ∀ z : Option Ret, z = some { pan := false, res := .sref 2000000 0 0 ((l.map (mkV true Lease_tfs)).length + 1), out := [deadL, rowL [t]], new := [{ v := 0, k := .row, fz := false, sz := 4, es := List.take (l.map (mkV true Lease_tfs)).length (l.map (mkV true Lease_tfs)) ++ [mkV true Lease_tfs t] }] } → z = some { pan := false, res := .sref newBase 0 0 ((insL l t i).map (mkV true Lease_tfs)).length, out := [deadL, rowL [t]], new := [rowL (insL l t i)] } := fun z hz => by
   rw [hz, e1, List.take_length]
   simp only [rowL, List.map_append, List.length_append, List.length_map]
   rfl
  rw [hi'] at key ⊢
  refine CallOk.unit (fnOk PKz_ok 21) rfl fLoops_none (o := true) (by show 2 ≤ 1000; decide) ((inu_w l t).trans ?_)
  unfold inu_r
  refine bK_tq (Q := (· = _)) (by simp) (bK_bq (Q := (· = _)) (fun _ => ?_) (fun _ => ?_))
  ·refine bK_tq (Q := (· = _)) (by simp) (bK_tq (Q := (· = _)) (by simp) (bK_tq (Q := (· = _)) (by simp) (bK_tq (Q := (· = _)) (by rw [Bool.and_eq_true]; exact ⟨by simp, gfit (by rw [List.length_map]; omega)⟩) ?_)))
   exact key _ rfl
  ·refine bK_tq (Q := (· = _)) (by simp) (bK_tq (Q := (· = _)) (by simp) (bK_tq (Q := (· = _)) (by simp) (bK_tq (Q := (· = _)) (by rw [Bool.and_eq_true]; exact ⟨by simp, gfit (by rw [List.length_map]; omega)⟩) ?_)))
   exact key _ rfl
theorem G1_ok : PKsOk Try.prog G1 := PKsOk.any clPK_ok 59 bsA _ _ bsO
theorem G2_ok : PKsOk Try.prog G2 := PKsOk.any G1_ok 61 inA _ _ inO
def granQ (l : List Lease_T) (t : Lease_T) : List Lease_T := if bsI l t = true then l.set (bsQ l t).toNat ((l.getD (bsQ l t).toNat zL).1, (l.getD (bsQ l t).toNat zL).2.1, maxI (l.getD (bsQ l t).toNat zL).2.2.1 t.2.2.1, maxI (l.getD (bsQ l t).toNat zL).2.2.2 t.2.2.2) else insL l t (bsQ l t)
noncomputable def granS : FS := ⟨gran_sh, gran_fs, gran_rsh, gran_rfs, fun d => d.1.2.length ≤ 100000, fun d => (false, granQ d.1.2 d.2), none⟩
theorem bsQ_le (l : List Lease_T) (t : Lease_T) : bsQ l t ≤ l.length := by
 have key : ∀ (k i j : Nat), i ≤ j → bsN l t k i j ≤ j := by
  intro k
  induction k with
  | zero => intro i j h; exact h
  | succ k ih =>
   intro i j h
   unfold bsN
   split
   ·split
    ·exact ih _ _ (by omega)
    ·exact Nat.le_trans (ih _ _ (by omega)) (by omega)
   ·exact h
 show ((bsN l t l.length 0 l.length : Nat) : Int) ≤ l.length
 have := key l.length 0 l.length (by omega)
 omega
theorem stM (l : List Lease_T) (i : Nat) (h : i < l.length) (v : Int) : stRow (l.map (mkV true Lease_tfs)) i 2 [.int .i64 v] = some ((l.set i (l[i].1, l[i].2.1, v, l[i].2.2.2)).map (mkV true Lease_tfs)) := by
 simp [stRow, h, splice, AV.cells, AV.recell, mkV, mkA, Tu.mk, Lf.mk, List.map_set]
theorem stU (l : List Lease_T) (i : Nat) (h : i < l.length) (v : Int) : stRow (l.map (mkV true Lease_tfs)) i 3 [.int .i64 v] = some ((l.set i (l[i].1, l[i].2.1, l[i].2.2.1, v)).map (mkV true Lease_tfs)) := by
 simp [stRow, h, splice, AV.cells, AV.recell, mkV, mkA, Tu.mk, Lf.mk, List.map_set]
theorem ldM (l : List Lease_T) (i : Nat) (h : i < l.length) : ldRow I1_tfs (l.map (mkV true Lease_tfs)) i 2 = some l[i].2.2.1 := by
 simp [ldRow, h, ldCells, mkV, mkA, AV.cells, Tu.mk, Lf.mk, Tu.dec, Lf.dec]
theorem ldU (l : List Lease_T) (i : Nat) (h : i < l.length) : ldRow I1_tfs (l.map (mkV true Lease_tfs)) i 3 = some l[i].2.2.2 := by
 simp [ldRow, h, ldCells, mkV, mkA, AV.cells, Tu.mk, Lf.mk, Tu.dec, Lf.dec]
theorem granO : ∀ d : Tu granS.fs, granS.pre d → CallOk Try.prog 49 (granS.args d) [] (granS.ret d) := by
 rintro ⟨⟨x, l⟩, t⟩ h
 have h' : l.length ≤ 100000 := h
 cases l with
 | nil => exact CallOk.unit (fnOk PKs0_ok 21) rfl fLoops_none (o := false) (by show 0 ≤ 1000; decide) (gran0_w x t)
 | cons a r =>
  generalize hl : a :: r = l at h'
  have h1 : 1 ≤ l.length := by rw [← hl]; simp
  refine CallOk.unit (fnOk G2_ok 21) rfl fLoops_none (o := false) (by show 0 ≤ 1000; decide) ((gran_w x l t.1 t.2.1 t.2.2.1 t.2.2.2).trans ?_)
  show _ = some (granS.out (false, granQ l t))
  have e0 : granQ l t = if bsI l t = true then l.set (bsQ l t).toNat ((l.getD (bsQ l t).toNat zL).1, (l.getD (bsQ l t).toNat zL).2.1, maxI (l.getD (bsQ l t).toNat zL).2.2.1 t.2.2.1, maxI (l.getD (bsQ l t).toNat zL).2.2.2 t.2.2.2) else insL l t (bsQ l t) := rfl
  have e2 : bsI l t = (decide (bsQ l t < (l.length : Int)) && decide (ordF (l.getD (bsQ l t).toNat zL) t = 0)) := rfl
  have q0 : 0 ≤ bsQ l t := by show (0 : Int) ≤ ((bsN l t l.length 0 l.length : Nat) : Int); omega
  have q1 := bsQ_le l t
  rw [e0]
  unfold gran_r
  refine oK_pkq (Q := (· = _)) cl_inj (x, l) ⟨h1, h'⟩ ?_
  refine bK_tq (Q := (· = _)) (by simp) ?_
  rw [List.drop_zero, List.take_length]
  refine oK_pkq (Q := (· = _)) bsA_inj ((false, l), t) h' ?_
  dsimp only
  have hin : bsI l t = true → bsQ l t < (l.length : Int) := fun hb => by
   rw [e2] at hb
   simp only [Bool.and_eq_true, decide_eq_true_eq] at hb
   exact hb.1
  clear e0 e2
  generalize bsQ l t = q at q0 q1 hin
  generalize bsI l t = b at hin
  cases b with
  | false =>
   refine bK_tq (Q := (· = _)) rfl ?_
   refine oK_pkq (Q := (· = _)) inA_inj (l, t, q) ⟨h1, h', q0, q1⟩ ?_
   refine bK_tq (Q := (· = _)) (by simp) ?_
   rw [List.drop_zero, List.take_length]
   rfl
  | true =>
   have hq := hin rfl
   have hlt : q.toNat < l.length := by omega
   refine bK_fq (Q := (· = _)) rfl ?_
   rw [if_pos rfl]
   simp only [Nat.zero_add, ldM l _ hlt, ldU l _ hlt, oK_some]
   have t1 : decide (0 ≤ q ∧ q < ((l.map (mkV true Lease_tfs)).length : Int)) = true := decide_eq_true ⟨q0, by rw [List.length_map]; exact hq⟩
   have t2 : decide (q.toNat < (l.map (mkV true Lease_tfs)).length) = true := decide_eq_true (by rw [List.length_map]; exact hlt)
   rw [bK_pos t1, bK_pos t2, bK_pos t1, bK_pos t2, bK_pos t1, bK_pos t2, stM l _ hlt, oK_some, bK_pos t1]
   have hlt2 : q.toNat < (l.set q.toNat (l[q.toNat].1, l[q.toNat].2.1, maxI l[q.toNat].2.2.1 t.2.2.1, l[q.toNat].2.2.2)).length := by rw [List.length_set]; exact hlt
   rw [bK_pos (decide_eq_true (by rw [List.length_map]; exact hlt2)), stU _ _ hlt2, oK_some, bK_pos (by simp), getD_at hlt]
   simp only [List.getElem_set_self, List.set_set]
   rw [List.drop_zero, List.take_of_length_le (by simp)]
   rfl

end Go.Proofs.Ytkanmigbbpppnaa
