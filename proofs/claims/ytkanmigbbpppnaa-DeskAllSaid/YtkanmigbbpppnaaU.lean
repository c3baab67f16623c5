/- A part of the proof: contracts of functions. -/
import Derived.Test.YtkanmigbbpppnaaT
import Derived.Test.YtkanmigbbpppnaaAbAny

set_option linter.unusedVariables false
set_option linter.unusedSimpArgs false
set_option maxRecDepth 100000
namespace Go.Proofs.Ytkanmigbbpppnaa
open Go Go.Ab
def slh (x : Bool) (a : List Lease_T) (y : Bool) (b : List Lease_T) (i : Int) : St := { fr := [(0, .slc x (a.map (mkV true Lease_tfs))), (1, .slc y (b.map (mkV true Lease_tfs))), (5, .int .i64 i)], bs := [], df := [] }
noncomputable def sls (x : Bool) (a : List Lease_T) (y : Bool) (b : List Lease_T) (i : Int) : Option (St ⊕ (Ex × St)) := stepK Try.prog cfg T1 LP0 42 0 (slh x a y b i)
noncomputable def sls_r (x : Bool) (a : List Lease_T) (y : Bool) (b : List Lease_T) (i : Int) : Option (St ⊕ Ex × St) :=
 bK (decide (i < (↑(mW a).length : Int))) (oK (elemAt true Wait_tfs (mW a) i) fun (d0 : Int × Int × Int × Int) => oK (elemAt true Wait_tfs (mW b) i) fun (d1 : Int × Int × Int × Int) => bK (!(decide (d0.1 = d1.1) && (decide (d0.2.1 = d1.2.1) && (decide (d0.2.2.1 = d1.2.2.1) && (decide (d0.2.2.2 = d1.2.2.2) && true))))) (some (.inr (.ret, (sf [(4, .bool false)] [])))) (some (.inl (sf [(0, sl x a), (1, sl y b), (5, i6 (IntKind.i64.wrap (i + 1)))] [])))) (some (.inr (.exit 0, (sf [] []))))
theorem sls_w (x : Bool) (a : List Lease_T) (y : Bool) (b : List Lease_T) (i : Int) : sls x a y b i = sls_r x a y b i := by kernel_rfl

def sle : St := { fr := [], bs := [], df := [] }
def sln : St := { fr := [(4, .bool false)], bs := [], df := [] }
theorem sllo : (loopsOf 0 (codeOf Try.prog 42)).map (·.1) = [0] := by kernel_rfl
theorem slon : OneLoops Try.prog 42 := by unfold OneLoops; rw [sllo]; decide
theorem slat : At 0 (codeOf Try.prog 42) 0 (.loop (bodyAt Try.prog 42 0)) := at_body slon (by rw [sllo]; decide)
def slx (e : Bool) : Ex × St := if e then (.exit 0, sle) else (.ret, sln)
theorem slrun (x : Bool) (a : List Lease_T) (y : Bool) (b : List Lease_T) (hl : a.length ≤ 100000) (hb : b.length = a.length) : ∀ (k i : Nat), i + k = a.length → ∀ (m : Nat), k < m →
  Runs' Try.prog cfg T1 42 0 m (slh x a y b i) (slx (decide (a.drop i = b.drop i)))
 | 0, i, hi, m + 1, hm => by
  refine Runs'.done (lp := LP0) LPok.none slat ((sls_w x a y b i).trans ?_)
  unfold sls_r
  rw [bK_neg (by simp; omega), List.drop_of_length_le (show a.length ≤ i by omega), List.drop_of_length_le (show b.length ≤ i by omega), decide_eq_true rfl]
  rfl
 | k + 1, i, hi, m + 1, hm => by
  have ha : i < a.length := by omega
  have hb' : i < b.length := by omega
  have hs : sls x a y b i = (if a.getD i (0, 0, 0, 0) = b.getD i (0, 0, 0, 0) then some (.inl (slh x a y b ((i + 1 : Nat) : Int))) else some (.inr (.ret, sln))) := by
   refine (sls_w x a y b i).trans ?_
   unfold sls_r
   refine bK_tq (Q := (· = _)) (by simp; omega) ?_
   refine oK_atq (Q := (· = _)) (fs := Lease_tfs) (0, 0, 0, 0) (by omega) (by simpa using ha) ?_
   refine oK_atq (Q := (· = _)) (fs := Lease_tfs) (0, 0, 0, 0) (by omega) (by simpa using hb') ?_
   rw [Int.toNat_natCast]
   generalize a.getD i (0, 0, 0, 0) = p
   generalize b.getD i (0, 0, 0, 0) = q
   rw [w64 (by omega) (by omega)]
   by_cases e : p = q
   ·rw [if_pos e]
    subst e
    rw [bK_neg (by simp)]
    rfl
   ·rw [if_neg e, bK_pos (by rw [Bool.not_eq_true']; refine Bool.eq_false_iff.2 fun hh => e ?_; simpa [Prod.ext_iff] using hh)]
    rfl
  have ea : a.drop i = a.getD i (0, 0, 0, 0) :: a.drop (i + 1) := by rw [List.drop_eq_getElem_cons ha, getD_at ha]
  have eb : b.drop i = b.getD i (0, 0, 0, 0) :: b.drop (i + 1) := by rw [List.drop_eq_getElem_cons hb', getD_at hb']
  by_cases e : a.getD i (0, 0, 0, 0) = b.getD i (0, 0, 0, 0)
  ·rw [if_pos e] at hs
   have : decide (a.drop i = b.drop i) = decide (a.drop (i + 1) = b.drop (i + 1)) := by
    rw [ea, eb, e]; simp
   rw [this]
   exact Runs'.step (lp := LP0) LPok.none slat hs (slrun x a y b hl hb k (i + 1) (by omega) m (by omega))
  ·rw [if_neg e] at hs
   have : decide (a.drop i = b.drop i) = false := by
    rw [ea, eb]; exact decide_eq_false (fun h => e (List.cons.inj h).1)
   rw [this]
   exact Runs'.done (lp := LP0) LPok.none slat hs
abbrev slD : Type := Bool × List Lease_T × Bool × List Lease_T
def slH (d : slD) : St := slh d.1 d.2.1 d.2.2.1 d.2.2.2 0
def slQ (a b : List Lease_T) : Bool := decide (a = b)
noncomputable def slL : LP := LP.of (D := slD) slH (fun d => d.2.1.length ≤ 100000 ∧ d.2.2.2.length = d.2.1.length) fun d => .ite (slQ d.2.1 d.2.2.2) (.leaf (.exit 0, sle)) (.leaf (.ret, sln))
noncomputable def slP : LPs := LPs.add LP0 42 0 slL
theorem slP_ok : LPok Try.prog cfg T1 slP 42 :=
 LPok.addH LPok.none slon fun d h => by
  have := slrun d.1 d.2.1 d.2.2.1 d.2.2.2 h.1 h.2 d.2.1.length 0 (by omega) rounds (by have : d.2.1.length ≤ 100000 := h.1; simp only [rounds]; omega)
  simp only [List.drop_zero] at this
  refine cast ?_ this
  congr 1
theorem slH_inj (d d' : slD) (h : slH d = slH d') : d = d' := by
 obtain ⟨x, a, y, b⟩ := d
 obtain ⟨x', a', y', b'⟩ := d'
 simp only [slH, slh, St.mk.injEq, List.cons.injEq, Prod.mk.injEq, AV.slc.injEq, and_true, true_and] at h
 obtain ⟨⟨h1, h2⟩, h3, h4⟩ := h
 rw [h1, map_inj (fs := Lease_tfs) rfl h2, h3, map_inj (fs := Lease_tfs) rfl h4]
abbrev sl_id : Nat := 42
abbrev sl_sh : Shp := [none, none]
abbrev sl_fs : List Lf := [.fl true Lease_tfs, .fl true Lease_tfs]
abbrev sl_rsh : Shp := [none]
abbrev sl_rfs : List Lf := [.fb]
noncomputable def sl_r (a_x : Bool) (a : List Lease_T) (b_x : Bool) (b : List Lease_T) : Option Ret :=
 bK (!decide ((↑(mW a).length : Int) = (↑(mW b).length : Int))) (some (rt (.bool false))) (oK (slL.dec (sf [(0, sl a_x a), (1, sl b_x b), (5, i6 0)] [])) fun (d0 : Bool × List Wait_T × Bool × List Wait_T) => bK (slQ d0.2.1 d0.2.2.2) (some (rt (.bool true))) (some (rt (.bool false))))
theorem sl_w (a_x : Bool) (a : List Lease_T) (b_x : Bool) (b : List Lease_T) : unitQ Try.prog cfg T1 slP false 42 (groupA sl_sh (Tu.mk sl_fs ((a_x, a), (b_x, b)))) [] = sl_r a_x a b_x b := by kernel_rfl

def slS : FS := ⟨sl_sh, sl_fs, sl_rsh, sl_rfs, fun d => d.1.2.length ≤ 100000, fun d => slQ d.1.2 d.2.2, none⟩
theorem sl_v (a_x : Bool) (a : List Lease_T) (b_x : Bool) (b : List Lease_T) (h : slS.pre ((a_x, a), (b_x, b))) : sl_r a_x a b_x b = some (slS.ret ((a_x, a), (b_x, b))) := by
 have h' : a.length ≤ 100000 := h
 show _ = some (slS.out (slQ a b))
 unfold sl_r
 simp only [List.length_map]
 refine bK_n (fun c1 => ?_) (fun c1 => ?_)
 ·have : slQ a b = false := decide_eq_false (by intro e; rw [e] at c1; exact c1 rfl)
  rw [this]; rfl
 ·refine oK_lpq (Q := (· = _)) slH_inj (a_x, a, b_x, b) ⟨h', by show b.length = a.length; omega⟩ ?_
  show bK (slQ a b) _ _ = _
  cases slQ a b <;> rfl
theorem slO : ∀ d : Tu slS.fs, slS.pre d → CallOk Try.prog 42 (slS.args d) [] (slS.ret d)
 | ((a_x, a), (b_x, b)), h => CallOk.unit (fnOk T1_ok 21) rfl slP_ok.loops (o := false) (by show 0 ≤ 1000; decide) ((sl_w a_x a b_x b).trans (sl_v a_x a b_x b h))

end Go.Proofs.Ytkanmigbbpppnaa
