/- A part of the proof: contracts of functions. -/
import Derived.Test.YtkanmigbbpppnaaZ
import Derived.Test.YtkanmigbbpppnaaAbAny

set_option linter.unusedVariables false
set_option linter.unusedSimpArgs false
set_option maxRecDepth 100000
namespace Go.Proofs.Ytkanmigbbpppnaa
open Go Go.Ab
theorem firstN_run (l : List Lease_T) (t : Lease_T) (hl : l.length ≤ 100000) : ∀ (j i : Nat), i + j = l.length → ∀ (fu : Nat), j < fu → Runs' Try.prog cfg Z1 53 2 fu (g2h l t i) (if 0 ≤ firstN (behF t) (l.drop i) i then g2y l (insF l t (firstN (behF t) (l.drop i) i).toNat) t (decide (firstN (behF t) (l.drop i) i = 0)) else g2n l t)
 | 0, i, hi, fu + 1, hm => by
  rw [List.drop_of_length_le (by omega), show firstN (behF t) [] (i : Int) = -1 from rfl, if_neg (by omega)]
  refine Runs'.done (lp := g0P) g0P_ok ga2 ((g2_s_w l t i).trans ?_)
  unfold g2_s_r
  rw [bK_pos (by simp), bK_neg (by simp; omega)]
  rfl
 | j + 1, i, hi, fu + 1, hm => by
  have hi' : i < l.length := by omega
  have e : l.drop i = l[i] :: l.drop (i + 1) := List.drop_eq_getElem_cons hi'
  have hs := g2_e l t i hi' hl
  rw [e]
  unfold firstN
  cases hq : behF t l[i] with
  | true =>
   rw [hq, if_pos rfl] at hs
   rw [if_pos rfl, if_pos (by omega), Int.toNat_natCast]
   have : decide ((i : Int) = 0) = decide (i = 0) := decide_eq_decide.2 (by omega)
   rw [this]
   exact Runs'.done (lp := g0P) g0P_ok ga2 hs
  | false =>
   rw [hq, if_neg (by simp)] at hs
   simp only [Bool.false_eq_true, if_false]
   exact Runs'.step (lp := g0P) g0P_ok ga2 hs (firstN_run l t hl j (i + 1) (by omega) fu (by omega))
def g2v : List Lease_T → AV
 | [] => .slc true []
 | a :: r => .sref 880 0 0 ((a :: r).map (mkV true Lease_tfs)).length
def g2b : List Lease_T → List (Nat × Blk)
 | [] => []
 | a :: r => [(880, rowL (a :: r))]
abbrev G2D : Type := List Lease_T × Lease_T
def g2Hd (d : G2D) : St := { fr := [(3, .ptr 48 0 0 0), (6, g2v d.1), (7, .int .i64 0)], bs := (48, boxB (Tu.mk Lease_tfs d.2)) :: g2b d.1, df := [] }
theorem g2Hd_inj (d d' : G2D) (h : g2Hd d = g2Hd d') : d = d' := by
 obtain ⟨l, t⟩ := d
 obtain ⟨l', t'⟩ := d'
 simp only [g2Hd, boxB, St.mk.injEq, List.cons.injEq, Prod.mk.injEq, Blk.mk.injEq, and_true, true_and] at h
 have hs : l = l' := by
  cases l with
  | nil => cases l' with
   | nil => rfl
   | cons a r => simp [g2b] at h
  | cons a r => cases l' with
   | nil => simp [g2b] at h
   | cons a' r' =>
    simp only [g2b, rowL, List.cons.injEq, Prod.mk.injEq, Blk.mk.injEq, and_true, true_and] at h
    exact map_inj (fs := Lease_tfs) rfl h.2.2
 rw [hs, mk_inj (fs := Lease_tfs) rfl h.2.1]
def noneQ (s : List Lease_T) : Bool := s.isEmpty
noncomputable def g2L : LP := LP.of g2Hd (fun d => d.1.length ≤ 100000) fun d => .ite (noneQ d.1)
 (.leaf (.exit 2, { fr := [(3, .ptr 48 0 0 0), (6, .slc true [])], bs := [(48, boxB (Tu.mk Lease_tfs d.2))], df := [] }))
 (.ite (decide (0 ≤ posQ d.1 d.2))
  (.ite (decide (posQ d.1 d.2 = 0))
   (.leaf (.ret, { fr := [(3, .ptr 48 0 0 0), (4, .sref 1616 0 0 ((insQ d.1 d.2).map (mkV true Lease_tfs)).length), (6, .sref 880 0 0 (d.1.map (mkV true Lease_tfs)).length)], bs := [(48, boxB (Tu.mk Lease_tfs d.2)), (880, rowL d.1), (1440, deadL), (1552, deadL), (1616, rowL (insQ d.1 d.2))], df := [] }))
   (.leaf (.ret, { fr := [(3, .ptr 48 0 0 0), (4, .sref 1616 0 0 ((insQ d.1 d.2).map (mkV true Lease_tfs)).length), (6, .sref 880 0 0 (d.1.map (mkV true Lease_tfs)).length)], bs := [(48, boxB (Tu.mk Lease_tfs d.2)), (880, rowL d.1), (1440, deadL), (1504, deadL), (1552, deadL), (1616, rowL (insQ d.1 d.2))], df := [] })))
  (.leaf (.exit 2, { fr := [(3, .ptr 48 0 0 0), (6, .sref 880 0 0 (d.1.map (mkV true Lease_tfs)).length)], bs := [(48, boxB (Tu.mk Lease_tfs d.2)), (880, rowL d.1)], df := [] })))
noncomputable def g2P : LPs := LPs.add g0P 53 2 g2L
def g2z (t : Lease_T) : St := { fr := [(3, .ptr 48 0 0 0), (6, .slc true []), (7, .int .i64 0)], bs := [(48, boxB (Tu.mk Lease_tfs t))], df := [] }
noncomputable def g2_z (t : Lease_T) : Option (St ⊕ (Ex × St)) := stepK Try.prog cfg Z1 g0P 53 2 (g2z t)
noncomputable def g2_z_r (t : Lease_T) : Option (St ⊕ Ex × St) :=
 some (.inr (.exit 2, (sf [(3, pt 48), (6, .slc true [])] [(48, (bx [i6 t.1, i6 t.2.1, i6 t.2.2.1, i6 t.2.2.2]))])))
theorem g2_z_w (t : Lease_T) : g2_z t = g2_z_r t := by kernel_rfl

theorem g2P_ok : LPok Try.prog cfg Z1 g2P 53 := LPok.addH g0P_ok go (by
 rintro ⟨l, t⟩ h
 have h2 : l.length ≤ 100000 := h
 cases l with
 | nil => exact Runs'.done (lp := g0P) (k := rounds - 1) g0P_ok ga2 (g2_z_w t)
 | cons a r =>
  have := firstN_run (a :: r) t h2 (a :: r).length 0 (by omega) rounds (by simp only [rounds]; omega)
  rw [List.drop_zero] at this
  have e : posQ (a :: r) t = firstN (behF t) (a :: r) 0 := rfl
  have e2 : insQ (a :: r) t = insF (a :: r) t (posQ (a :: r) t).toNat := rfl
  rw [show ((0 : Nat) : Int) = 0 from rfl, ← e, ← e2] at this
  refine cast ?_ this
  congr 1
  show (if 0 ≤ posQ (a :: r) t then g2y (a :: r) (insQ (a :: r) t) t (decide (posQ (a :: r) t = 0)) else g2n (a :: r) t) = Alt.val (.ite (noneQ (a :: r)) _ _)
  rw [show noneQ (a :: r) = false from rfl]
  by_cases h1 : 0 ≤ posQ (a :: r) t
  ·rw [if_pos h1, decide_eq_true h1]
   by_cases h3 : posQ (a :: r) t = 0
   ·rw [decide_eq_true h3]; rfl
   ·rw [decide_eq_false h3]; rfl
  ·rw [if_neg h1, decide_eq_false h1]; rfl)
theorem oK_lpe {R D : Type} {hd : D → St} {pre : D → Prop} {out : D → Alt (Ex × St)} (hinj : ∀ d d', hd d = hd d' → d = d') (d : D) (hp : pre d) {st : St} (e : st = hd d) {k : D → Option R} {Q : Option R → Prop} (hz : Q (k d)) : Q (oK ((LP.of hd pre out).dec st) k) := by
 rw [e]; exact oK_lpq hinj d hp hz
abbrev grefo_id : Nat := 53
abbrev grefo_sh : Shp := [none, some 4]
abbrev grefo_fs : List Lf := [.fl true Lease_tfs, .fi .i64, .fi .i64, .fi .i64, .fi .i64]
abbrev grefo_rsh : Shp := [none]
abbrev grefo_rfs : List Lf := [.fl true Lease_tfs]
noncomputable def grefo_r (l_x : Bool) (l : List Lease_T) (x_Client : Int) (x_File : Int) (x_Mode : Int) (x_Until : Int) : Option Ret :=
 oK (g0L.dec (sf [(0, sl l_x l), (3, pt 48), (5, i6 0)] [(48, (bx [i6 x_Client, i6 x_File, i6 x_Mode, i6 x_Until]))])) fun (d0 : LW × Int × Int × Int × Int) =>
 oK (drefoS.dec [sl d0.1.1 d0.1.2, i6 (upQ d0.1.2 d0.2).1, i6 (upQ d0.1.2 d0.2).2.1] []) fun (d1 : LW × Int × Int) =>
 bK (mW (dropQ d1.1.2 d1.2.1 d1.2.2)).isEmpty
 (oK (g2L.dec (sf [(3, pt 48), (6, .slc true []), (7, i6 0)] [(48, (bx [i6 (upQ d0.1.2 d0.2).1, i6 (upQ d0.1.2 d0.2).2.1, i6 (upQ d0.1.2 d0.2).2.2.1, i6 (upQ d0.1.2 d0.2).2.2.2]))])) fun (d2 : List Wait_T × Int × Int × Int × Int) =>
 bK (noneQ d2.1) (some { pan := false, res := .sref 2000000 0 0 1, out := [], new := [{ v := 0, k := .row, fz := false, sz := 4, es := [AV.agg [i6 d2.2.1, i6 d2.2.2.1, i6 d2.2.2.2.1, i6 d2.2.2.2.2]] }] })
 (bK (decide (0 ≤ posQ d2.1 d2.2)) (bK (decide (posQ d2.1 d2.2 = 0)) (some { pan := false, res := .sref 2000000 0 0 (mW (insQ d2.1 d2.2)).length, out := [], new := [(rw4 (insQ d2.1 d2.2))] }) (some { pan := false, res := .sref 2000000 0 0 (mW (insQ d2.1 d2.2)).length, out := [], new := [(rw4 (insQ d2.1 d2.2))] })) (bK (decide (0 + (mW d2.1).length ≤ (mW d2.1).length)) (bK (decide (0 = 0 ∧ (mW d2.1).length = (mW d2.1).length) && bytesFit Try.prog 57 ((mW d2.1).length + 1)) (some { pan := false, res := .sref 2000000 0 0 ((mW d2.1).length + 1), out := [], new := [{ v := 0, k := .row, fz := false, sz := 4, es := List.take (mW d2.1).length (mW d2.1) ++ [AV.agg [i6 d2.2.1, i6 d2.2.2.1, i6 d2.2.2.2.1, i6 d2.2.2.2.2]] }] }) none) none)))
 (oK (g2L.dec (sf [(3, pt 48), (6, .sref 880 0 0 (mW (dropQ d1.1.2 d1.2.1 d1.2.2)).length), (7, i6 0)] [(48, (bx [i6 (upQ d0.1.2 d0.2).1, i6 (upQ d0.1.2 d0.2).2.1, i6 (upQ d0.1.2 d0.2).2.2.1, i6 (upQ d0.1.2 d0.2).2.2.2])), (880, (rw4 (dropQ d1.1.2 d1.2.1 d1.2.2)))])) fun (d3 : List Wait_T × Int × Int × Int × Int) =>
 bK (noneQ d3.1) (some { pan := false, res := .sref 2000000 0 0 1, out := [], new := [{ v := 0, k := .row, fz := false, sz := 4, es := [AV.agg [i6 d3.2.1, i6 d3.2.2.1, i6 d3.2.2.2.1, i6 d3.2.2.2.2]] }] })
 (bK (decide (0 ≤ posQ d3.1 d3.2)) (bK (decide (posQ d3.1 d3.2 = 0)) (some { pan := false, res := .sref 2000000 0 0 (mW (insQ d3.1 d3.2)).length, out := [], new := [(rw4 (insQ d3.1 d3.2))] }) (some { pan := false, res := .sref 2000000 0 0 (mW (insQ d3.1 d3.2)).length, out := [], new := [(rw4 (insQ d3.1 d3.2))] })) (bK (decide (0 + (mW d3.1).length ≤ (mW d3.1).length)) (bK (decide (0 = 0 ∧ (mW d3.1).length = (mW d3.1).length) && bytesFit Try.prog 57 ((mW d3.1).length + 1)) (some { pan := false, res := .sref 2000000 0 0 ((mW d3.1).length + 1), out := [], new := [{ v := 0, k := .row, fz := false, sz := 4, es := List.take (mW d3.1).length (mW d3.1) ++ [AV.agg [i6 d3.2.1, i6 d3.2.2.1, i6 d3.2.2.2.1, i6 d3.2.2.2.2]] }] }) none) none)))
theorem grefo_w (l_x : Bool) (l : List Lease_T) (x_Client : Int) (x_File : Int) (x_Mode : Int) (x_Until : Int) : unitQ Try.prog cfg Z1 g2P true 53 (groupA grefo_sh (Tu.mk grefo_fs ((l_x, l), x_Client, x_File, x_Mode, x_Until))) [] = grefo_r l_x l x_Client x_File x_Mode x_Until := by kernel_rfl

def grefQ (l : List Lease_T) (t : Lease_T) : List Lease_T := if 0 ≤ posQ (dropQ l (upQ l t).1 (upQ l t).2.1) (upQ l t) then insQ (dropQ l (upQ l t).1 (upQ l t).2.1) (upQ l t) else dropQ l (upQ l t).1 (upQ l t).2.1 ++ [upQ l t]
noncomputable def grefoS : FS := ⟨grefo_sh, grefo_fs, grefo_rsh, grefo_rfs, fun d => d.1.2.length ≤ 100000, fun d => (true, grefQ d.1.2 d.2), some (0, 4)⟩
theorem grefoO : ∀ d : Tu grefoS.fs, grefoS.pre d → CallOk Try.prog 53 (grefoS.args d) [] (grefoS.ret d) := by
 rintro ⟨⟨x, l⟩, t⟩ h
 have h' : l.length ≤ 100000 := h
 refine CallOk.unit (fnOk Z1_ok 21) rfl g2P_ok.loops (o := true) (by show 0 ≤ 1000; decide) ((grefo_w x l t.1 t.2.1 t.2.2.1 t.2.2.2).trans ?_)
 unfold grefo_r
 refine oK_lpq (Q := (· = _)) g0Hd_inj ((x, l), t) h' ?_
 dsimp only
 have e0 : grefQ l t = if 0 ≤ posQ (dropQ l (upQ l t).1 (upQ l t).2.1) (upQ l t) then insQ (dropQ l (upQ l t).1 (upQ l t).2.1) (upQ l t) else dropQ l (upQ l t).1 (upQ l t).2.1 ++ [upQ l t] := rfl
 refine oK_fsq (Q := (· = _)) drefoS ((x, l), (upQ l t).1, (upQ l t).2.1) h' ?_
 refine Eq.trans ?_ (congrArg some (own_one (sz := 4) (x := true) (l := grefQ l t) (f := mkV true Lease_tfs) (out := [])).symm)
 have hle : (dropQ l (upQ l t).1 (upQ l t).2.1).length ≤ l.length := List.length_filter_le _ _
 rw [e0]
 dsimp only
 generalize hr : dropQ l (upQ l t).1 (upQ l t).2.1 = r at hle
 generalize upQ l t = u
 cases r with
 | nil =>
  refine bK_tq (Q := (· = _)) rfl ?_
  refine oK_lpe (Q := (· = _)) g2Hd_inj ([], u) (by show 0 ≤ 100000; decide) rfl ?_
  rw [show noneQ [] = true from rfl, show posQ [] u = -1 from rfl, if_neg (show ¬ (0 ≤ (-1 : Int)) by decide)]
  rfl
 | cons a r =>
  refine bK_fq (Q := (· = _)) rfl ?_
  refine oK_lpe (Q := (· = _)) g2Hd_inj (a :: r, u) (by show (a :: r).length ≤ 100000; omega) rfl ?_
  rw [show noneQ (a :: r) = false from rfl]
  dsimp only
  have hi : insQ (a :: r) u = (a :: r).take (posQ (a :: r) u).toNat ++ u :: (a :: r).drop (posQ (a :: r) u).toNat := rfl
  have hne : insQ (a :: r) u ≠ [] := by rw [hi]; simp
  generalize a :: r = r at hle hne ⊢
  generalize insQ r u = m at hne
  refine bK_fq (Q := (· = _)) rfl ?_
  refine bK_iq (Q := (· = _)) (fun c1 => ?_) (fun c1 => ?_)
  ·rw [if_pos c1, if_neg (by simpa using hne)]
   refine bK_iq (Q := (· = _)) (fun c2 => ?_) (fun c2 => ?_) <;> (rw [List.length_map]; rfl)
  ·rw [if_neg c1, if_neg (by simp)]
   refine bK_tq (Q := (· = _)) (by simp) (bK_tq (Q := (· = _)) (by rw [Bool.and_eq_true]; exact ⟨by simp, gfit (by rw [List.length_map]; omega)⟩) ?_)
   rw [List.take_length, List.map_append, List.length_append, List.length_map]
   rfl

end Go.Proofs.Ytkanmigbbpppnaa
