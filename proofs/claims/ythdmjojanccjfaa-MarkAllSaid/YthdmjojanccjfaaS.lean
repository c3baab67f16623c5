/- A part of the proof: contracts of functions. -/
import Derived.Test.YthdmjojanccjfaaP
import Derived.Test.YthdmjojanccjfaaAbCl

set_option linter.unusedVariables false
set_option linter.unusedSimpArgs false
set_option maxRecDepth 100000
namespace Go.Proofs.Ythdmjojanccjfaa
open Go Go.Ab
def smHd (x : Bool) (a : List Mark_T) (y : Bool) (b : List Mark_T) (i : Int) : St := { fr := [(0, .slc x (a.map (mkV true Mark_tfs))), (1, .slc y (b.map (mkV true Mark_tfs))), (5, .int .i64 i)], bs := [], df := [] }
noncomputable def sm_s (x : Bool) (a : List Mark_T) (y : Bool) (b : List Mark_T) (i : Int) : Option (St ⊕ (Ex × St)) := stepK Try.prog cfg PK7 LP0 11 0 (smHd x a y b i)
noncomputable def sm_s_r (x : Bool) (a : List Mark_T) (y : Bool) (b : List Mark_T) (i : Int) : Option (St ⊕ Ex × St) :=
  bK (decide (i < (↑(List.map (mkV true Mark_tfs) a).length : Int))) (oK (elemAt true Mark_tfs (List.map (mkV true Mark_tfs) a) i) fun (d0 : Int × Int × Int × Int) => oK (elemAt true Mark_tfs (List.map (mkV true Mark_tfs) b) i) fun (d1 : Int × Int × Int × Int) => bK (!(decide (d0.fst = d1.fst) && (decide (d0.snd.fst = d1.snd.fst) && (decide (d0.snd.snd.fst = d1.snd.snd.fst) && (decide (d0.snd.snd.snd = d1.snd.snd.snd) && true))))) (some (Sum.inr (Ex.ret, { fr := [(4, AV.bool false)], bs := [], df := [] }))) (some (Sum.inl { fr := [(0, AV.slc x (List.map (mkV true Mark_tfs) a)), (1, AV.slc y (List.map (mkV true Mark_tfs) b)), (5, AV.int IntKind.i64 (IntKind.i64.wrap (i + 1)))], bs := [], df := [] }))) (some (Sum.inr (Ex.exit 0, { fr := [], bs := [], df := [] })))
theorem sm_s_w (x : Bool) (a : List Mark_T) (y : Bool) (b : List Mark_T) (i : Int) : sm_s x a y b i = sm_s_r x a y b i := by kernel_rfl

def endE : St := { fr := [], bs := [], df := [] }
theorem loops11 : (loopsOf 0 (codeOf Try.prog 11)).map (·.1) = [0] := by kernel_rfl
theorem one11 : OneLoops Try.prog 11 := by unfold OneLoops; rw [loops11]; decide
theorem at11 : At 0 (codeOf Try.prog 11) 0 (.loop (bodyAt Try.prog 11 0)) := at_body one11 (by rw [loops11]; decide)
theorem sm_run (x : Bool) (a : List Mark_T) (y : Bool) (hl : a.length ≤ 100000) : ∀ (k i : Nat), i + k = a.length → ∀ (m : Nat), k < m →
    Runs' Try.prog cfg PK7 11 0 m (smHd x a y a i) (.exit 0, endE)
  | 0, i, hi, m + 1, hm => by
    refine Runs'.done (lp := LP0) LPok.none at11 ((sm_s_w x a y a i).trans ?_)
    unfold sm_s_r
    rw [bK_neg (by simp; omega)]
    rfl
  | k + 1, i, hi, m + 1, hm => by
    refine Runs'.step (lp := LP0) LPok.none at11 ((sm_s_w x a y a i).trans ?_) (sm_run x a y hl k (i + 1) (by omega) m (by omega))
    unfold sm_s_r
    rw [bK_pos (by simp; omega)]
    refine (oK_atD rfl (0, 0, 0, 0) (by omega) (by simp; omega)).trans ?_
    refine (oK_atD rfl (0, 0, 0, 0) (by omega) (by simp; omega)).trans ?_
    rw [bK_neg (by simp), w64 (by omega) (by omega)]
    rfl
abbrev SmD : Type := Bool × List Mark_T × Bool
def smH (d : SmD) : St := smHd d.1 d.2.1 d.2.2 d.2.1 0
noncomputable def smL : LP := LP.of (D := SmD) smH (fun d => d.2.1.length ≤ 100000) fun _ => .leaf (.exit 0, endE)
noncomputable def LPs1 : LPs := LPs.add LP0 11 0 smL
theorem LPs1_ok : LPok Try.prog cfg PK7 LPs1 11 :=
  LPok.addH LPok.none one11 fun d h => sm_run d.1 d.2.1 d.2.2 h d.2.1.length 0 (by omega) rounds (by have : d.2.1.length ≤ 100000 := h; simp only [rounds]; omega)
theorem smH_inj (d d' : SmD) (h : smH d = smH d') : d = d' := by
  obtain ⟨x, a, y⟩ := d
  obtain ⟨x', a', y'⟩ := d'
  simp only [smH, smHd, St.mk.injEq, List.cons.injEq, Prod.mk.injEq, AV.slc.injEq, and_true, true_and] at h
  obtain ⟨⟨h1, h2⟩, h3, _⟩ := h
  rw [h1, map_inj (fs := Mark_tfs) rfl h2, h3]
abbrev same_id : Nat := 11
abbrev same_sh : Shp := [none, none]
abbrev same_fs : List Lf := [.fl true Mark_tfs, .fl true Mark_tfs]
abbrev same_rsh : Shp := [none]
abbrev same_rfs : List Lf := [.fb]
noncomputable def same_r (a_x : Bool) (a : List Mark_T) (b_x : Bool) (b : List Mark_T) : Option Ret :=
  bK (!decide ((↑(List.map (mkV true Mark_tfs) a).length : Int) = (↑(List.map (mkV true Mark_tfs) b).length : Int))) (some { pan := false, res := AV.bool false, out := [], new := [] }) (oK (smL.dec { fr := [(0, AV.slc a_x (List.map (mkV true Mark_tfs) a)), (1, AV.slc b_x (List.map (mkV true Mark_tfs) b)), (5, AV.int IntKind.i64 0)], bs := [], df := [] }) fun (d0 : Bool × List (Int × Int × Int × Int) × Bool) => some { pan := false, res := AV.bool true, out := [], new := [] })
theorem same_w (a_x : Bool) (a : List Mark_T) (b_x : Bool) (b : List Mark_T) : unitQ Try.prog cfg PK7 LPs1 false 11 (groupA same_sh (Tu.mk same_fs ((a_x, a), (b_x, b)))) [] = same_r a_x a b_x b := by kernel_rfl

def sameS : FS := ⟨same_sh, same_fs, same_rsh, same_rfs, fun d => d.1.2 = d.2.2 ∧ d.1.2.length ≤ 100000, fun _ => true, none⟩
theorem same_v (a_x : Bool) (a : List Mark_T) (b_x : Bool) (b : List Mark_T) (h : sameS.pre ((a_x, a), (b_x, b))) : same_r a_x a b_x b = some (sameS.ret ((a_x, a), (b_x, b))) := by
  obtain ⟨h1, h2⟩ := h
  have h1' : a = b := h1
  subst h1'
  unfold same_r
  rw [bK_neg (by simp)]
  exact oK_lpq (Q := fun z => z = _) smH_inj (a_x, a, b_x) h2 rfl
theorem same_ok : ∀ (d : Tu same_fs), sameS.pre d → unitQ Try.prog cfg PK7 LPs1 false 11 (sameS.args d) [] = some (sameS.ret d)
  | ((a_x, a), (b_x, b)), h => (same_w a_x a b_x b).trans (same_v a_x a b_x b h)
noncomputable def PK8 : PKs := PK7.add 11 sameS.pk
theorem PK8_ok : PKsOk Try.prog PK8 := PKsOk.fs (cfg := cfg) PK7_ok (fnOk PK7_ok 21) 11 rfl LPs1 (LPs1_ok.loops) sameS same_ok

abbrev B4 : Type := Int × Int × Int × Int
abbrev B4_fs : List Lf := [.fi .u8, .fi .u8, .fi .u8, .fi .u8]
def miHd (x : Bool) (l : List B4) (cl sq n : Int) (w : Mark_T) (L : List Mark_T) (i c k : Int) : St :=
  { fr := [(0, .slc x (l.map (mkV true B4_fs))), (2, .int .i64 cl), (3, .int .i64 sq), (4, .int .i64 n), (6, .ptr 96 0 0 0), (11, .slc false (L.map (mkV true Mark_tfs))), (12, .slc false (L.map (mkV true Mark_tfs))), (13, .int .i64 i), (14, .int .i64 c), (16, .int .i64 k)], bs := [(96, boxB (Tu.mk Mark_tfs w))], df := [] }
def maHd (x : Bool) (l : List B4) (cl sq n : Int) (w : Mark_T) (L : List Mark_T) (i : Int) : St :=
  { fr := [(0, .slc x (l.map (mkV true B4_fs))), (2, .int .i64 cl), (3, .int .i64 sq), (4, .int .i64 n), (6, .ptr 96 0 0 0), (11, .slc false (L.map (mkV true Mark_tfs))), (12, .slc false (L.map (mkV true Mark_tfs))), (13, .int .i64 i)], bs := [(96, boxB (Tu.mk Mark_tfs w))], df := [] }
noncomputable def mi_s (x : Bool) (l : List B4) (cl sq n : Int) (w : Mark_T) (L : List Mark_T) (i c k : Int) : Option (St ⊕ (Ex × St)) := stepK Try.prog cfg PK8 LP0 3 2 (miHd x l cl sq n w L i c k)
noncomputable def mi_s_r (x : Bool) (l : List B4) (cl : Int) (sq : Int) (n : Int) (w : Mark_T) (L : List Mark_T) (i : Int) (c : Int) (k : Int) : Option (St ⊕ Ex × St) :=
  bK (decide (k < 9))
  (oK (isMS.dec [AV.slc false (List.map (mkV true Mark_tfs) L), AV.int IntKind.i64 c, AV.int IntKind.i64 k] []) fun (d0 : (Bool × List (Int × Int × Int × Int)) × Int × Int) =>
    oK (isRS.dec [AV.slc false (List.map (mkV true Mark_tfs) L), AV.int IntKind.i64 c, AV.int IntKind.i64 k] []) fun (d1 : (Bool × List (Int × Int × Int × Int)) × Int × Int) =>
      bK (!(decide ((isL d0.fst.snd d0.snd.fst d0.snd.snd).fst.fst = (isL d1.fst.snd d1.snd.fst d1.snd.snd).fst.fst) && (decide ((isL d0.fst.snd d0.snd.fst d0.snd.snd).fst.snd.fst = (isL d1.fst.snd d1.snd.fst d1.snd.snd).fst.snd.fst) && (decide ((isL d0.fst.snd d0.snd.fst d0.snd.snd).fst.snd.snd.fst = (isL d1.fst.snd d1.snd.fst d1.snd.snd).fst.snd.snd.fst) && (decide ((isL d0.fst.snd d0.snd.fst d0.snd.snd).fst.snd.snd.snd = (isL d1.fst.snd d1.snd.fst d1.snd.snd).fst.snd.snd.snd) && true))))) (some (Sum.inr (Ex.ret, { fr := [(0, AV.slc x (List.map (mkV true [Lf.fi IntKind.u8, Lf.fi IntKind.u8, Lf.fi IntKind.u8, Lf.fi IntKind.u8]) l)), (2, AV.int IntKind.i64 cl), (3, AV.int IntKind.i64 sq), (4, AV.int IntKind.i64 n), (6, AV.ptr 96 0 0 0), (10, AV.bool false), (11, AV.slc false (List.map (mkV true Mark_tfs) L)), (12, AV.slc false (List.map (mkV true Mark_tfs) L)), (13, AV.int IntKind.i64 i)], bs := [(96, { v := 0, k := BK.box, fz := false, sz := 0, es := [AV.int IntKind.i64 w.fst, AV.int IntKind.i64 w.snd.fst, AV.int IntKind.i64 w.snd.snd.fst, AV.int IntKind.i64 w.snd.snd.snd] })], df := [] })))
        (bK (!(isL d0.fst.snd d0.snd.fst d0.snd.snd).snd == (isL d1.fst.snd d1.snd.fst d1.snd.snd).snd) (some (Sum.inr (Ex.ret, { fr := [(0, AV.slc x (List.map (mkV true [Lf.fi IntKind.u8, Lf.fi IntKind.u8, Lf.fi IntKind.u8, Lf.fi IntKind.u8]) l)), (2, AV.int IntKind.i64 cl), (3, AV.int IntKind.i64 sq), (4, AV.int IntKind.i64 n), (6, AV.ptr 96 0 0 0), (10, AV.bool false), (11, AV.slc false (List.map (mkV true Mark_tfs) L)), (12, AV.slc false (List.map (mkV true Mark_tfs) L)), (13, AV.int IntKind.i64 i)], bs := [(96, { v := 0, k := BK.box, fz := false, sz := 0, es := [AV.int IntKind.i64 w.fst, AV.int IntKind.i64 w.snd.fst, AV.int IntKind.i64 w.snd.snd.fst, AV.int IntKind.i64 w.snd.snd.snd] })], df := [] }))) (some (Sum.inl { fr := [(0, AV.slc x (List.map (mkV true [Lf.fi IntKind.u8, Lf.fi IntKind.u8, Lf.fi IntKind.u8, Lf.fi IntKind.u8]) l)), (2, AV.int IntKind.i64 cl), (3, AV.int IntKind.i64 sq), (4, AV.int IntKind.i64 n), (6, AV.ptr 96 0 0 0), (11, AV.slc false (List.map (mkV true Mark_tfs) L)), (12, AV.slc false (List.map (mkV true Mark_tfs) L)), (13, AV.int IntKind.i64 i), (14, AV.int IntKind.i64 c), (16, AV.int IntKind.i64 (IntKind.i64.wrap (k + 1)))], bs := [(96, { v := 0, k := BK.box, fz := false, sz := 0, es := [AV.int IntKind.i64 w.fst, AV.int IntKind.i64 w.snd.fst, AV.int IntKind.i64 w.snd.snd.fst, AV.int IntKind.i64 w.snd.snd.snd] })], df := [] }))))
  (some (Sum.inr (Ex.exit 2, { fr := [(0, AV.slc x (List.map (mkV true [Lf.fi IntKind.u8, Lf.fi IntKind.u8, Lf.fi IntKind.u8, Lf.fi IntKind.u8]) l)), (2, AV.int IntKind.i64 cl), (3, AV.int IntKind.i64 sq), (4, AV.int IntKind.i64 n), (6, AV.ptr 96 0 0 0), (11, AV.slc false (List.map (mkV true Mark_tfs) L)), (12, AV.slc false (List.map (mkV true Mark_tfs) L)), (13, AV.int IntKind.i64 i)], bs := [(96, { v := 0, k := BK.box, fz := false, sz := 0, es := [AV.int IntKind.i64 w.fst, AV.int IntKind.i64 w.snd.fst, AV.int IntKind.i64 w.snd.snd.fst, AV.int IntKind.i64 w.snd.snd.snd] })], df := [] })))
theorem mi_s_w (x : Bool) (l : List B4) (cl : Int) (sq : Int) (n : Int) (w : Mark_T) (L : List Mark_T) (i : Int) (c : Int) (k : Int) : mi_s x l cl sq n w L i c k = mi_s_r x l cl sq n w L i c k := by kernel_rfl

theorem loops3 : (loopsOf 0 (codeOf Try.prog 3)).map (·.1) = [0, 2] := by kernel_rfl
theorem one3 : OneLoops Try.prog 3 := by unfold OneLoops; rw [loops3]; decide
theorem at3_0 : At 0 (codeOf Try.prog 3) 0 (.loop (bodyAt Try.prog 3 0)) := at_body one3 (by rw [loops3]; decide)
theorem at3_2 : At 0 (codeOf Try.prog 3) 2 (.loop (bodyAt Try.prog 3 2)) := at_body one3 (by rw [loops3]; decide)
theorem mi_run (x : Bool) (l : List B4) (cl sq n : Int) (w : Mark_T) (L : List Mark_T) (i c : Int) (hL : L.length ≤ 100000) : ∀ (j k : Nat), k + j = 9 → ∀ (m : Nat), j < m →
    Runs' Try.prog cfg PK8 3 2 m (miHd x l cl sq n w L i c k) (.exit 2, maHd x l cl sq n w L i)
  | 0, k, hk, m + 1, hm => by
    refine Runs'.done (lp := LP0) LPok.none at3_2 ((mi_s_w x l cl sq n w L i c k).trans ?_)
    unfold mi_s_r
    rw [bK_neg (by simp; omega)]
    rfl
  | j + 1, k, hk, m + 1, hm => by
    refine Runs'.step (lp := LP0) LPok.none at3_2 ((mi_s_w x l cl sq n w L i c k).trans ?_) (mi_run x l cl sq n w L i c hL j (k + 1) (by omega) m (by omega))
    unfold mi_s_r
    rw [bK_pos (by simp; omega)]
    refine oK_fsq (Q := fun z => z = _) isMS ((false, L), c, (k : Int)) hL ?_
    refine oK_fsq (Q := fun z => z = _) isRS ((false, L), c, (k : Int)) hL ?_
    rw [bK_neg (by simp), bK_neg (by simp), w64 (by omega) (by omega)]
    rfl
abbrev MiD : Type := Bool × List B4 × Int × Int × Int × Mark_T × List Mark_T × Int × Int
def miH (d : MiD) : St := miHd d.1 d.2.1 d.2.2.1 d.2.2.2.1 d.2.2.2.2.1 d.2.2.2.2.2.1 d.2.2.2.2.2.2.1 d.2.2.2.2.2.2.2.1 d.2.2.2.2.2.2.2.2 0
noncomputable def miL : LP := LP.of (D := MiD) miH (fun d => d.2.2.2.2.2.2.1.length ≤ 100000) fun d => .leaf (.exit 2, maHd d.1 d.2.1 d.2.2.1 d.2.2.2.1 d.2.2.2.2.1 d.2.2.2.2.2.1 d.2.2.2.2.2.2.1 d.2.2.2.2.2.2.2.1)
noncomputable def LPm : LPs := LPs.add LP0 3 2 miL
theorem LPm_ok : LPok Try.prog cfg PK8 LPm 3 :=
  LPok.addH LPok.none one3 fun d h => mi_run d.1 d.2.1 d.2.2.1 d.2.2.2.1 d.2.2.2.2.1 d.2.2.2.2.2.1 d.2.2.2.2.2.2.1 d.2.2.2.2.2.2.2.1 d.2.2.2.2.2.2.2.2 h 9 0 rfl rounds (by simp [rounds])
theorem miH_inj (d d' : MiD) (h : miH d = miH d') : d = d' := by
  obtain ⟨x, l, cl, sq, n, w, L, i, c⟩ := d
  obtain ⟨x', l', cl', sq', n', w', L', i', c'⟩ := d'
  simp only [miH, miHd, boxB, St.mk.injEq, List.cons.injEq, Prod.mk.injEq, AV.slc.injEq, AV.int.injEq, Blk.mk.injEq, and_true, true_and] at h
  obtain ⟨⟨⟨h1, h2⟩, h3, h4, h5, h6, h7, h8, h9⟩, h10⟩ := h
  rw [h1, map_inj (fs := B4_fs) rfl h2, h3, h4, h5, map_inj (fs := Mark_tfs) rfl h6, h8, h9, mk_inj (fs := Mark_tfs) rfl h10]
noncomputable def ma_s (x : Bool) (l : List B4) (cl sq n : Int) (w : Mark_T) (L : List Mark_T) (i : Int) : Option (St ⊕ (Ex × St)) := stepK Try.prog cfg PK8 LPm 3 0 (maHd x l cl sq n w L i)
noncomputable def ma_s_r (x : Bool) (l : List B4) (cl : Int) (sq : Int) (n : Int) (w : Mark_T) (L : List Mark_T) (i : Int) : Option (St ⊕ Ex × St) :=
  bK (decide (i < (↑(List.map (mkV true [Lf.fi IntKind.u8, Lf.fi IntKind.u8, Lf.fi IntKind.u8, Lf.fi IntKind.u8]) l).length : Int)))
  (oK (elemAt true [Lf.fi IntKind.u8, Lf.fi IntKind.u8, Lf.fi IntKind.u8, Lf.fi IntKind.u8] (List.map (mkV true [Lf.fi IntKind.u8, Lf.fi IntKind.u8, Lf.fi IntKind.u8, Lf.fi IntKind.u8]) l) i) fun (d0 : Int × Int × Int × Int) =>
    oK (elemAt true [Lf.fi IntKind.u8, Lf.fi IntKind.u8, Lf.fi IntKind.u8, Lf.fi IntKind.u8] (List.map (mkV true [Lf.fi IntKind.u8, Lf.fi IntKind.u8, Lf.fi IntKind.u8, Lf.fi IntKind.u8]) l) i) fun (d1 : Int × Int × Int × Int) =>
      oK (elemAt true [Lf.fi IntKind.u8, Lf.fi IntKind.u8, Lf.fi IntKind.u8, Lf.fi IntKind.u8] (List.map (mkV true [Lf.fi IntKind.u8, Lf.fi IntKind.u8, Lf.fi IntKind.u8, Lf.fi IntKind.u8]) l) i) fun (d2 : Int × Int × Int × Int) =>
        oK (elemAt true [Lf.fi IntKind.u8, Lf.fi IntKind.u8, Lf.fi IntKind.u8, Lf.fi IntKind.u8] (List.map (mkV true [Lf.fi IntKind.u8, Lf.fi IntKind.u8, Lf.fi IntKind.u8, Lf.fi IntKind.u8]) l) i) fun (d3 : Int × Int × Int × Int) =>
          oK (putMS.dec [AV.slc false (List.map (mkV true Mark_tfs) L), AV.int IntKind.i64 (IntKind.i64.wrap (IntKind.i64.wrap (Int.tmod d0.fst 5) - 1)), AV.agg [AV.int IntKind.i64 (IntKind.i64.wrap (Int.tmod d1.snd.fst 9)), AV.int IntKind.i64 (IntKind.i64.wrap (Int.tmod d2.snd.snd.fst 3)), AV.int IntKind.i64 (IntKind.i64.wrap (Int.tmod d3.snd.snd.snd 7)), AV.int IntKind.i64 i]] []) fun (d4 : (Bool × List (Int × Int × Int × Int)) × Int × Int × Int × Int × Int) =>
            oK (putRS.dec [AV.slc false (List.map (mkV true Mark_tfs) L), AV.int IntKind.i64 (IntKind.i64.wrap (IntKind.i64.wrap (Int.tmod d0.fst 5) - 1)), AV.agg [AV.int IntKind.i64 (IntKind.i64.wrap (Int.tmod d1.snd.fst 9)), AV.int IntKind.i64 (IntKind.i64.wrap (Int.tmod d2.snd.snd.fst 3)), AV.int IntKind.i64 (IntKind.i64.wrap (Int.tmod d3.snd.snd.snd 7)), AV.int IntKind.i64 i]] []) fun (d5 : (Bool × List (Int × Int × Int × Int)) × Int × Int × Int × Int × Int) =>
              oK (sameS.dec [AV.slc d4.fst.snd.isEmpty (List.map (mkV true Mark_tfs) (putL d4.fst.snd d4.snd.fst d4.snd.snd)), AV.slc false (List.map (mkV true Mark_tfs) (putL d5.fst.snd d5.snd.fst d5.snd.snd))] []) fun (d6 : (Bool × List (Int × Int × Int × Int)) × Bool × List (Int × Int × Int × Int)) =>
                oK (miL.dec { fr := [(0, AV.slc x (List.map (mkV true [Lf.fi IntKind.u8, Lf.fi IntKind.u8, Lf.fi IntKind.u8, Lf.fi IntKind.u8]) l)), (2, AV.int IntKind.i64 cl), (3, AV.int IntKind.i64 sq), (4, AV.int IntKind.i64 n), (6, AV.ptr 96 0 0 0), (11, AV.slc d4.fst.snd.isEmpty (List.map (mkV true Mark_tfs) (putL d4.fst.snd d4.snd.fst d4.snd.snd))), (12, AV.slc false (List.map (mkV true Mark_tfs) (putL d5.fst.snd d5.snd.fst d5.snd.snd))), (13, AV.int IntKind.i64 i), (14, AV.int IntKind.i64 (IntKind.i64.wrap (IntKind.i64.wrap (Int.tmod d0.fst 5) - 1))), (16, AV.int IntKind.i64 0)], bs := [(96, { v := 0, k := BK.box, fz := false, sz := 0, es := [AV.int IntKind.i64 w.fst, AV.int IntKind.i64 w.snd.fst, AV.int IntKind.i64 w.snd.snd.fst, AV.int IntKind.i64 w.snd.snd.snd] })], df := [] }) fun (d7 : Bool × List (Int × Int × Int × Int) × Int × Int × Int × (Int × Int × Int × Int) × List (Int × Int × Int × Int) × Int × Int) =>
                  some (Sum.inl { fr := [(0, AV.slc d7.fst (List.map (mkV true [Lf.fi IntKind.u8, Lf.fi IntKind.u8, Lf.fi IntKind.u8, Lf.fi IntKind.u8]) d7.snd.fst)), (2, AV.int IntKind.i64 d7.snd.snd.fst), (3, AV.int IntKind.i64 d7.snd.snd.snd.fst), (4, AV.int IntKind.i64 d7.snd.snd.snd.snd.fst), (6, AV.ptr 96 0 0 0), (11, AV.slc false (List.map (mkV true Mark_tfs) d7.snd.snd.snd.snd.snd.snd.fst)), (12, AV.slc false (List.map (mkV true Mark_tfs) d7.snd.snd.snd.snd.snd.snd.fst)), (13, AV.int IntKind.i64 (IntKind.i64.wrap (d7.snd.snd.snd.snd.snd.snd.snd.fst + 1)))], bs := [(96, { v := 0, k := BK.box, fz := false, sz := 0, es := [AV.int IntKind.i64 d7.snd.snd.snd.snd.snd.fst.fst, AV.int IntKind.i64 d7.snd.snd.snd.snd.snd.fst.snd.fst, AV.int IntKind.i64 d7.snd.snd.snd.snd.snd.fst.snd.snd.fst, AV.int IntKind.i64 d7.snd.snd.snd.snd.snd.fst.snd.snd.snd] })], df := [] }))
  (some (Sum.inr (Ex.exit 0, { fr := [(2, AV.int IntKind.i64 cl), (3, AV.int IntKind.i64 sq), (4, AV.int IntKind.i64 n), (6, AV.ptr 96 0 0 0), (11, AV.slc false (List.map (mkV true Mark_tfs) L)), (12, AV.slc false (List.map (mkV true Mark_tfs) L))], bs := [(96, { v := 0, k := BK.box, fz := false, sz := 0, es := [AV.int IntKind.i64 w.fst, AV.int IntKind.i64 w.snd.fst, AV.int IntKind.i64 w.snd.snd.fst, AV.int IntKind.i64 w.snd.snd.snd] })], df := [] })))
theorem ma_s_w (x : Bool) (l : List B4) (cl : Int) (sq : Int) (n : Int) (w : Mark_T) (L : List Mark_T) (i : Int) : ma_s x l cl sq n w L i = ma_s_r x l cl sq n w L i := by kernel_rfl

def maEnd (cl sq n : Int) (w : Mark_T) (L : List Mark_T) : St :=
  { fr := [(2, .int .i64 cl), (3, .int .i64 sq), (4, .int .i64 n), (6, .ptr 96 0 0 0), (11, .slc false (L.map (mkV true Mark_tfs))), (12, .slc false (L.map (mkV true Mark_tfs)))], bs := [(96, boxB (Tu.mk Mark_tfs w))], df := [] }
theorem three {L : List Mark_T} (h : L.length = 3) : ∃ a b c, L = [a, b, c] := by
  match L, h with
  | [a, b, c], _ => exact ⟨a, b, c, rfl⟩
def maGood (x : Bool) (l : List B4) (cl sq n : Int) (w : Mark_T) (i : Int) (r : Option (St ⊕ (Ex × St))) : Prop := ∃ L2 : List Mark_T, L2.length = 3 ∧ r = some (.inl (maHd x l cl sq n w L2 (i + 1)))
theorem ma_run (x : Bool) (l : List B4) (cl sq n : Int) (w : Mark_T) (hl : l.length ≤ 20) : ∀ (k i : Nat), i + k = l.length → ∀ (L : List Mark_T), L.length = 3 → ∀ (m : Nat), k < m →
    ∃ L' : List Mark_T, L'.length = 3 ∧ Runs' Try.prog cfg PK8 3 0 m (maHd x l cl sq n w L i) (.exit 0, maEnd cl sq n w L')
  | 0, i, hi, L, hL, m + 1, hm => by
    refine ⟨L, hL, Runs'.done (lp := LPm) LPm_ok at3_0 ((ma_s_w x l cl sq n w L i).trans ?_)⟩
    unfold ma_s_r
    rw [bK_neg (by simp; omega)]
    rfl
  | k + 1, i, hi, L, hL, m + 1, hm => by
    obtain ⟨l0, l1, l2, rfl⟩ := three hL
    have hd : maGood x l cl sq n w i (ma_s_r x l cl sq n w [l0, l1, l2] i) := by
      have e0 : IntKind.i64.wrap ((i : Int) + 1) = (i : Int) + 1 := w64 (by omega) (by omega)
      unfold ma_s_r
      have hi' : (i : Int).toNat < l.length := by omega
      refine bK_tq (by simp only [List.length_map, decide_eq_true_eq]; omega) ?_
      refine oK_atq (0, 0, 0, 0) (by omega) hi' ?_
      refine oK_atq (0, 0, 0, 0) (by omega) hi' ?_
      refine oK_atq (0, 0, 0, 0) (by omega) hi' ?_
      refine oK_atq (0, 0, 0, 0) (by omega) hi' ?_
      generalize l.getD (i : Int).toNat (0, 0, 0, 0) = b
      generalize IntKind.i64.wrap (IntKind.i64.wrap (Int.tmod b.1 5) - 1) = c
      generalize IntKind.i64.wrap (Int.tmod b.2.1 9) = q
      generalize IntKind.i64.wrap (Int.tmod b.2.2.1 3) = q2
      generalize IntKind.i64.wrap (Int.tmod b.2.2.2 7) = q3
      have h3 : ([l0, l1, l2] : List Mark_T).length ≤ 100000 := by simp
      refine oK_fsq putMS ((false, [l0, l1, l2]), c, (q, q2, q3, (i : Int))) h3 ?_
      refine oK_fsq putRS ((false, [l0, l1, l2]), c, (q, q2, q3, (i : Int))) h3 ?_
      have hp : (putL [l0, l1, l2] c (q, q2, q3, (i : Int))).length = 3 := putL_len _ _ _
      have hp' : (putL [l0, l1, l2] c (q, q2, q3, (i : Int))).length ≤ 100000 := by omega
      refine oK_fsq sameS ((false, putL [l0, l1, l2] c (q, q2, q3, (i : Int))), (false, putL [l0, l1, l2] c (q, q2, q3, (i : Int)))) ⟨rfl, hp'⟩ ?_
      refine oK_lpq miH_inj (x, l, cl, sq, n, w, putL [l0, l1, l2] c (q, q2, q3, (i : Int)), (i : Int), c) hp' ?_
      rw [e0]
      exact ⟨_, hp, rfl⟩
    obtain ⟨L2, h2, he⟩ := hd
    obtain ⟨L', h3, hr⟩ := ma_run x l cl sq n w hl k (i + 1) (by omega) L2 h2 m (by omega)
    exact ⟨L', h3, Runs'.step (lp := LPm) LPm_ok at3_0 ((ma_s_w x l cl sq n w [l0, l1, l2] i).trans he) (by simpa using hr)⟩
abbrev MaD : Type := Bool × List B4 × Int × Int × Int × Mark_T
def z3 : List Mark_T := [(0, 0, 0, 0), (0, 0, 0, 0), (0, 0, 0, 0)]
def maH (d : MaD) : St := maHd d.1 d.2.1 d.2.2.1 d.2.2.2.1 d.2.2.2.2.1 d.2.2.2.2.2 z3 0
/-- The marks behind all. -/
noncomputable def maR (d : MaD) : List Mark_T := open Classical in if h : d.2.1.length ≤ 20 then Classical.choose (ma_run d.1 d.2.1 d.2.2.1 d.2.2.2.1 d.2.2.2.2.1 d.2.2.2.2.2 h d.2.1.length 0 (by omega) z3 rfl rounds (by simp only [rounds]; omega)) else []
noncomputable def maL : LP := LP.of (D := MaD) maH (fun d => d.2.1.length ≤ 20) fun d => .leaf (.exit 0, maEnd d.2.2.1 d.2.2.2.1 d.2.2.2.2.1 d.2.2.2.2.2 (maR d))
noncomputable def LPa : LPs := LPs.add LPm 3 0 maL
theorem maR_spec (d : MaD) (h : d.2.1.length ≤ 20) : (maR d).length = 3 ∧ Runs' Try.prog cfg PK8 3 0 rounds (maH d) (.exit 0, maEnd d.2.2.1 d.2.2.2.1 d.2.2.2.2.1 d.2.2.2.2.2 (maR d)) := by
  unfold maR
  rw [dif_pos h]
  exact Classical.choose_spec (ma_run d.1 d.2.1 d.2.2.1 d.2.2.2.1 d.2.2.2.2.1 d.2.2.2.2.2 h d.2.1.length 0 (by omega) z3 rfl rounds (by simp only [rounds]; omega))
theorem LPa_ok : LPok Try.prog cfg PK8 LPa 3 := LPok.addH LPm_ok one3 fun d h => (maR_spec d h).2
theorem maH_inj (d d' : MaD) (h : maH d = maH d') : d = d' := by
  obtain ⟨x, l, cl, sq, n, w⟩ := d
  obtain ⟨x', l', cl', sq', n', w'⟩ := d'
  simp only [maH, maHd, boxB, St.mk.injEq, List.cons.injEq, Prod.mk.injEq, AV.slc.injEq, AV.int.injEq, Blk.mk.injEq, and_true, true_and] at h
  obtain ⟨⟨⟨h1, h2⟩, h3, h4, h5⟩, h6⟩ := h
  rw [h1, map_inj (fs := B4_fs) rfl h2, h3, h4, h5, mk_inj (fs := Mark_tfs) rfl h6]
abbrev markAll_id : Nat := 3
abbrev markAll_sh : Shp := [none, some 4, none, none, none]
abbrev markAll_fs : List Lf := [.fl true [.fi .u8, .fi .u8, .fi .u8, .fi .u8], .fi .i64, .fi .i64, .fi .i64, .fi .i64, .fi .i64, .fi .i64, .fi .i64]
abbrev markAll_rsh : Shp := [none]
abbrev markAll_rfs : List Lf := [.fb]
noncomputable def markAll_r (l_x : Bool) (l : List (Int × Int × Int × Int)) (wild_Seq : Int) (wild_Err : Int) (wild_File : Int) (wild_Ver : Int) (client : Int) (seq : Int) (n : Int) : Option Ret :=
  oK (begunS.dec [] []) fun (d0 : PUnit) =>
  bK (decide (20 < (↑(List.map (mkV true [Lf.fi IntKind.u8, Lf.fi IntKind.u8, Lf.fi IntKind.u8, Lf.fi IntKind.u8]) l).length : Int))) (some { pan := false, res := AV.bool true, out := [], new := [] })
    (bK (decide (50 < n)) (some { pan := false, res := AV.bool true, out := [], new := [] })
      (oK (newMS.dec [AV.int IntKind.i64 3] []) fun (d1 : Int) =>
        oK (newRS.dec [] []) fun (d2 : PUnit) =>
          oK (maL.dec { fr := [(0, AV.slc l_x (List.map (mkV true [Lf.fi IntKind.u8, Lf.fi IntKind.u8, Lf.fi IntKind.u8, Lf.fi IntKind.u8]) l)), (2, AV.int IntKind.i64 client), (3, AV.int IntKind.i64 seq), (4, AV.int IntKind.i64 n), (6, AV.ptr 96 0 0 0), (11, AV.slc (decide (d1 < 1)) (List.map (mkV true Mark_tfs) (List.replicate d1.toNat (0, 0, 0, 0)))), (12, AV.slc false [AV.agg [AV.int IntKind.i64 0, AV.int IntKind.i64 0, AV.int IntKind.i64 0, AV.int IntKind.i64 0], AV.agg [AV.int IntKind.i64 0, AV.int IntKind.i64 0, AV.int IntKind.i64 0, AV.int IntKind.i64 0], AV.agg [AV.int IntKind.i64 0, AV.int IntKind.i64 0, AV.int IntKind.i64 0, AV.int IntKind.i64 0]]), (13, AV.int IntKind.i64 0)], bs := [(96, { v := 0, k := BK.box, fz := false, sz := 0, es := [AV.int IntKind.i64 wild_Seq, AV.int IntKind.i64 wild_Err, AV.int IntKind.i64 wild_File, AV.int IntKind.i64 wild_Ver] })], df := [] }) fun (d3 : Bool × List (Int × Int × Int × Int) × Int × Int × Int × Int × Int × Int × Int) =>
            oK (isMS.dec [AV.slc false (List.map (mkV true Mark_tfs) (maR d3)), AV.int IntKind.i64 d3.snd.snd.fst, AV.int IntKind.i64 d3.snd.snd.snd.fst] []) fun (d4 : (Bool × List (Int × Int × Int × Int)) × Int × Int) =>
              oK (isRS.dec [AV.slc false (List.map (mkV true Mark_tfs) (maR d3)), AV.int IntKind.i64 d3.snd.snd.fst, AV.int IntKind.i64 d3.snd.snd.snd.fst] []) fun (d5 : (Bool × List (Int × Int × Int × Int)) × Int × Int) =>
                bK (decide ((isL d4.fst.snd d4.snd.fst d4.snd.snd).fst.fst = (isL d5.fst.snd d5.snd.fst d5.snd.snd).fst.fst) && (decide ((isL d4.fst.snd d4.snd.fst d4.snd.snd).fst.snd.fst = (isL d5.fst.snd d5.snd.fst d5.snd.snd).fst.snd.fst) && (decide ((isL d4.fst.snd d4.snd.fst d4.snd.snd).fst.snd.snd.fst = (isL d5.fst.snd d5.snd.fst d5.snd.snd).fst.snd.snd.fst) && (decide ((isL d4.fst.snd d4.snd.fst d4.snd.snd).fst.snd.snd.snd = (isL d5.fst.snd d5.snd.fst d5.snd.snd).fst.snd.snd.snd) && true))))
                  (bK ((isL d4.fst.snd d4.snd.fst d4.snd.snd).snd == (isL d5.fst.snd d5.snd.fst d5.snd.snd).snd)
                    (oK (putMS.dec [AV.slc false (List.map (mkV true Mark_tfs) (maR d3)), AV.int IntKind.i64 d3.snd.snd.fst, AV.agg [AV.int IntKind.i64 d3.snd.snd.snd.snd.snd.fst, AV.int IntKind.i64 d3.snd.snd.snd.snd.snd.snd.fst, AV.int IntKind.i64 d3.snd.snd.snd.snd.snd.snd.snd.fst, AV.int IntKind.i64 d3.snd.snd.snd.snd.snd.snd.snd.snd]] []) fun (d6 : (Bool × List (Int × Int × Int × Int)) × Int × Int × Int × Int × Int) =>
                      oK (putRS.dec [AV.slc false (List.map (mkV true Mark_tfs) (maR d3)), AV.int IntKind.i64 d3.snd.snd.fst, AV.agg [AV.int IntKind.i64 d3.snd.snd.snd.snd.snd.fst, AV.int IntKind.i64 d3.snd.snd.snd.snd.snd.snd.fst, AV.int IntKind.i64 d3.snd.snd.snd.snd.snd.snd.snd.fst, AV.int IntKind.i64 d3.snd.snd.snd.snd.snd.snd.snd.snd]] []) fun (d7 : (Bool × List (Int × Int × Int × Int)) × Int × Int × Int × Int × Int) => oK (sameS.dec [AV.slc d6.fst.snd.isEmpty (List.map (mkV true Mark_tfs) (putL d6.fst.snd d6.snd.fst d6.snd.snd)), AV.slc false (List.map (mkV true Mark_tfs) (putL d7.fst.snd d7.snd.fst d7.snd.snd))] []) fun (d8 : (Bool × List (Int × Int × Int × Int)) × Bool × List (Int × Int × Int × Int)) => oK (newMS.dec [AV.int IntKind.i64 d3.snd.snd.snd.snd.fst] []) fun (d9 : Int) => some { pan := false, res := AV.bool (decide ((↑(List.map (mkV true Mark_tfs) (List.replicate d9.toNat (0, 0, 0, 0))).length : Int) = Decidable.rec (fun (h : ¬0 > d3.snd.snd.snd.snd.fst) => d3.snd.snd.snd.snd.fst) (fun (h : 0 > d3.snd.snd.snd.snd.fst) => 0) (d3.snd.snd.snd.snd.fst.decLt 0))), out := [], new := [] })
                    (some { pan := false, res := AV.bool false, out := [], new := [] }))
                  (some { pan := false, res := AV.bool false, out := [], new := [] })))
theorem markAll_w (l_x : Bool) (l : List (Int × Int × Int × Int)) (wild_Seq : Int) (wild_Err : Int) (wild_File : Int) (wild_Ver : Int) (client : Int) (seq : Int) (n : Int) : unitQ Try.prog cfg PK8 LPa true 3 (groupA markAll_sh (Tu.mk markAll_fs ((l_x, l), wild_Seq, wild_Err, wild_File, wild_Ver, client, seq, n))) [] = markAll_r l_x l wild_Seq wild_Err wild_File wild_Ver client seq n := by kernel_rfl

theorem markAll_yes (l_x : Bool) (l : List (Int × Int × Int × Int)) (wild_Seq : Int) (wild_Err : Int) (wild_File : Int) (wild_Ver : Int) (client : Int) (seq : Int) (n : Int) (h : Tu.wf markAll_fs ((l_x, l), wild_Seq, wild_Err, wild_File, wild_Ver, client, seq, n)) : Yes (markAll_r l_x l wild_Seq wild_Err wild_File wild_Ver client seq n) := by
  unfold markAll_r
  refine oK_fsq begunS () trivial ?_
  refine bK_iq (fun _ => yes_leaf) (fun c => ?_)
  refine bK_iq (fun _ => yes_leaf) (fun c2 => ?_)
  have hl : l.length ≤ 20 := by simp only [List.length_map] at c; omega
  refine oK_fsq newMS (3 : Int) (show (3 : Int) ≤ 1000 by decide) ?_
  refine oK_fsq newRS () trivial ?_
  refine oK_lpq maH_inj (l_x, l, client, seq, n, (wild_Seq, wild_Err, wild_File, wild_Ver)) hl ?_
  have h3 := (maR_spec (l_x, l, client, seq, n, (wild_Seq, wild_Err, wild_File, wild_Ver)) hl).1
  generalize maR (l_x, l, client, seq, n, (wild_Seq, wild_Err, wild_File, wild_Ver)) = L at h3 ⊢
  obtain ⟨l0, l1, l2, rfl⟩ := three h3
  have h4 : ([l0, l1, l2] : List Mark_T).length ≤ 100000 := by simp
  refine oK_fsq isMS ((false, [l0, l1, l2]), client, seq) h4 ?_
  refine oK_fsq isRS ((false, [l0, l1, l2]), client, seq) h4 ?_
  refine bK_tq (by simp) (bK_tq (by simp) ?_)
  refine oK_fsq putMS ((false, [l0, l1, l2]), client, (wild_Seq, wild_Err, wild_File, wild_Ver)) h4 ?_
  refine oK_fsq putRS ((false, [l0, l1, l2]), client, (wild_Seq, wild_Err, wild_File, wild_Ver)) h4 ?_
  have hp' : (putL [l0, l1, l2] client (wild_Seq, wild_Err, wild_File, wild_Ver)).length ≤ 100000 := by rw [putL_len]; exact h4
  refine oK_fsq sameS ((false, putL [l0, l1, l2] client (wild_Seq, wild_Err, wild_File, wild_Ver)), (false, putL [l0, l1, l2] client (wild_Seq, wild_Err, wild_File, wild_Ver))) ⟨rfl, hp'⟩ ?_
  refine oK_fsq newMS n (show n ≤ 1000 by omega) ?_
  have e : (((List.replicate n.toNat ((0, 0, 0, 0) : Mark_T)).map (mkV true Mark_tfs)).length : Int) = Decidable.rec (fun (_ : ¬0 > n) => n) (fun (_ : 0 > n) => (0 : Int)) (n.decLt 0) := by
    rw [List.length_map, List.length_replicate]
    by_cases hn : n < 0
    · rw [show n.decLt 0 = isTrue hn from Subsingleton.elim _ _]
      show _ = (0 : Int)
      omega
    · rw [show n.decLt 0 = isFalse hn from Subsingleton.elim _ _]
      show _ = n
      omega
  exact yes_of (decide_eq_true e)

end Go.Proofs.Ythdmjojanccjfaa
