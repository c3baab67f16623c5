/- A part of the proof: contracts of functions. -/
import Derived.Test.YtkanmigbbpppnaaA
import Derived.Test.YtkanmigbbpppnaaAbAny

set_option linter.unusedVariables false
set_option linter.unusedSimpArgs false
set_option maxRecDepth 100000
namespace Go.Proofs.Ytkanmigbbpppnaa
open Go Go.Ab
abbrev I1_T : Type := Int
abbrev I1_tfs : List Lf := [.fi .i64]
def sah (x : Bool) (a : List I1_T) (y : Bool) (b : List I1_T) (i : Int) : St := { fr := [(0, .slc x (a.map (mkV false I1_tfs))), (1, .slc y (b.map (mkV false I1_tfs))), (5, .int .i64 i)], bs := [], df := [] }
noncomputable def sas (x : Bool) (a : List I1_T) (y : Bool) (b : List I1_T) (i : Int) : Option (St ⊕ (Ex × St)) := stepK Try.prog cfg PKz LP0 19 0 (sah x a y b i)
noncomputable def sas_r (x : Bool) (a : List I1_T) (y : Bool) (b : List I1_T) (i : Int) : Option (St ⊕ Ex × St) :=
 bK (decide (i < (↑(mi a).length : Int))) (oK (elemAt false I1_tfs (mi a) i) fun (d0 : Int) => oK (elemAt false I1_tfs (mi b) i) fun (d1 : Int) => bK (!decide (d0 = d1)) (some (.inr (.ret, (sf [(4, .bool false)] [])))) (some (.inl (sf [(0, .slc x (mi a)), (1, .slc y (mi b)), (5, i6 (IntKind.i64.wrap (i + 1)))] [])))) (some (.inr (.exit 0, (sf [] []))))
theorem sas_w (x : Bool) (a : List I1_T) (y : Bool) (b : List I1_T) (i : Int) : sas x a y b i = sas_r x a y b i := by kernel_rfl

def sae : St := { fr := [], bs := [], df := [] }
def san : St := { fr := [(4, .bool false)], bs := [], df := [] }
theorem salo : (loopsOf 0 (codeOf Try.prog 19)).map (·.1) = [0] := by kernel_rfl
theorem saon : OneLoops Try.prog 19 := by unfold OneLoops; rw [salo]; decide
theorem saat : At 0 (codeOf Try.prog 19) 0 (.loop (bodyAt Try.prog 19 0)) := at_body saon (by rw [salo]; decide)
def sax (e : Bool) : Ex × St := if e then (.exit 0, sae) else (.ret, san)
theorem sarun (x : Bool) (a : List I1_T) (y : Bool) (b : List I1_T) (hl : a.length ≤ 100000) (hb : b.length = a.length) : ∀ (k i : Nat), i + k = a.length → ∀ (m : Nat), k < m →
  Runs' Try.prog cfg PKz 19 0 m (sah x a y b i) (sax (decide (a.drop i = b.drop i)))
 | 0, i, hi, m + 1, hm => by
  refine Runs'.done (lp := LP0) LPok.none saat ((sas_w x a y b i).trans ?_)
  unfold sas_r
  rw [bK_neg (by simp; omega), List.drop_of_length_le (show a.length ≤ i by omega), List.drop_of_length_le (show b.length ≤ i by omega), decide_eq_true rfl]
  rfl
 | k + 1, i, hi, m + 1, hm => by
  have ha : i < a.length := by omega
  have hb' : i < b.length := by omega
  have hs : sas x a y b i = (if a.getD i 0 = b.getD i 0 then some (.inl (sah x a y b ((i + 1 : Nat) : Int))) else some (.inr (.ret, san))) := by
   refine (sas_w x a y b i).trans ?_
   unfold sas_r
   refine bK_tq (Q := (· = _)) (by simp; omega) ?_
   refine oK_atq (Q := (· = _)) (fs := I1_tfs) 0 (by omega) (by simpa using ha) ?_
   refine oK_atq (Q := (· = _)) (fs := I1_tfs) 0 (by omega) (by simpa using hb') ?_
   rw [Int.toNat_natCast]
   generalize a.getD i 0 = p
   generalize b.getD i 0 = q
   rw [w64 (by omega) (by omega)]
   by_cases e : p = q
   ·rw [if_pos e]
    subst e
    rw [bK_neg (by simp)]
    rfl
   ·rw [if_neg e, bK_pos (by rw [Bool.not_eq_true']; refine Bool.eq_false_iff.2 fun hh => e ?_; simpa [Prod.ext_iff] using hh)]
    rfl
  have ea : a.drop i = a.getD i 0 :: a.drop (i + 1) := by rw [List.drop_eq_getElem_cons ha, getD_at ha]
  have eb : b.drop i = b.getD i 0 :: b.drop (i + 1) := by rw [List.drop_eq_getElem_cons hb', getD_at hb']
  by_cases e : a.getD i 0 = b.getD i 0
  ·rw [if_pos e] at hs
   have : decide (a.drop i = b.drop i) = decide (a.drop (i + 1) = b.drop (i + 1)) := by
    rw [ea, eb, e]; simp
   rw [this]
   exact Runs'.step (lp := LP0) LPok.none saat hs (sarun x a y b hl hb k (i + 1) (by omega) m (by omega))
  ·rw [if_neg e] at hs
   have : decide (a.drop i = b.drop i) = false := by
    rw [ea, eb]; exact decide_eq_false (fun h => e (List.cons.inj h).1)
   rw [this]
   exact Runs'.done (lp := LP0) LPok.none saat hs
abbrev saD : Type := Bool × List I1_T × Bool × List I1_T
def saH (d : saD) : St := sah d.1 d.2.1 d.2.2.1 d.2.2.2 0
def saQ (a b : List I1_T) : Bool := decide (a = b)
noncomputable def saL : LP := LP.of (D := saD) saH (fun d => d.2.1.length ≤ 100000 ∧ d.2.2.2.length = d.2.1.length) fun d => .ite (saQ d.2.1 d.2.2.2) (.leaf (.exit 0, sae)) (.leaf (.ret, san))
noncomputable def saP : LPs := LPs.add LP0 19 0 saL
theorem saP_ok : LPok Try.prog cfg PKz saP 19 :=
 LPok.addH LPok.none saon fun d h => by
  have := sarun d.1 d.2.1 d.2.2.1 d.2.2.2 h.1 h.2 d.2.1.length 0 (by omega) rounds (by have : d.2.1.length ≤ 100000 := h.1; simp only [rounds]; omega)
  simp only [List.drop_zero] at this
  refine cast ?_ this
  congr 1
theorem saH_inj (d d' : saD) (h : saH d = saH d') : d = d' := by
 obtain ⟨x, a, y, b⟩ := d
 obtain ⟨x', a', y', b'⟩ := d'
 simp only [saH, sah, St.mk.injEq, List.cons.injEq, Prod.mk.injEq, AV.slc.injEq, and_true, true_and] at h
 obtain ⟨⟨h1, h2⟩, h3, h4⟩ := h
 rw [h1, map_inj (fs := I1_tfs) rfl h2, h3, map_inj (fs := I1_tfs) rfl h4]
abbrev sa_id : Nat := 19
abbrev sa_sh : Shp := [none, none]
abbrev sa_fs : List Lf := [.fl false [.fi .i64], .fl false [.fi .i64]]
abbrev sa_rsh : Shp := [none]
abbrev sa_rfs : List Lf := [.fb]
noncomputable def sa_r (a_x : Bool) (a : List Int) (b_x : Bool) (b : List Int) : Option Ret :=
 bK (!decide ((↑(mi a).length : Int) = (↑(mi b).length : Int))) (some (rt (.bool false))) (oK (saL.dec (sf [(0, .slc a_x (mi a)), (1, .slc b_x (mi b)), (5, i6 0)] [])) fun (d0 : Bool × List Int × Bool × List Int) => bK (saQ d0.2.1 d0.2.2.2) (some (rt (.bool true))) (some (rt (.bool false))))
theorem sa_w (a_x : Bool) (a : List Int) (b_x : Bool) (b : List Int) : unitQ Try.prog cfg PKz saP false 19 (groupA sa_sh (Tu.mk sa_fs ((a_x, a), (b_x, b)))) [] = sa_r a_x a b_x b := by kernel_rfl

def saS : FS := ⟨sa_sh, sa_fs, sa_rsh, sa_rfs, fun d => d.1.2.length ≤ 100000, fun d => saQ d.1.2 d.2.2, none⟩
theorem sa_v (a_x : Bool) (a : List Int) (b_x : Bool) (b : List Int) (h : saS.pre ((a_x, a), (b_x, b))) : sa_r a_x a b_x b = some (saS.ret ((a_x, a), (b_x, b))) := by
 have h' : a.length ≤ 100000 := h
 show _ = some (saS.out (saQ a b))
 unfold sa_r
 simp only [List.length_map]
 refine bK_n (fun c1 => ?_) (fun c1 => ?_)
 ·have : saQ a b = false := decide_eq_false (by intro e; rw [e] at c1; exact c1 rfl)
  rw [this]; rfl
 ·refine oK_lpq (Q := (· = _)) saH_inj (a_x, a, b_x, b) ⟨h', by show b.length = a.length; omega⟩ ?_
  show bK (saQ a b) _ _ = _
  cases saQ a b <;> rfl
theorem saO : ∀ d : Tu saS.fs, saS.pre d → CallOk Try.prog 19 (saS.args d) [] (saS.ret d)
 | ((a_x, a), (b_x, b)), h => CallOk.unit (fnOk PKz_ok 21) rfl saP_ok.loops (o := false) (by show 0 ≤ 1000; decide) ((sa_w a_x a b_x b).trans (sa_v a_x a b_x b h))
def okE (w : Lease_T) : Bool := decide (1 ≤ w.1) && decide (w.1 ≤ 3) && (decide (1 ≤ w.2.1) && decide (w.2.1 ≤ 6)) && (decide (1 ≤ w.2.2.1) && decide (w.2.2.1 ≤ 2)) && decide (0 ≤ w.2.2.2)
def mayB (l : List Lease_T) (i : Nat) : Bool := okE (l.getD i zL) && (decide (i = 0) || decide (ordF (l.getD (i - 1) zL) (l.getD i zL) < 0))
def mayN (l : List Lease_T) : Nat → Nat → Bool
 | 0, _ => true
 | k + 1, i => mayB l i && mayN l k (i + 1)
def mayX (b : Bool) : Ex × St := if b = true then (.exit 0, { fr := [], bs := [], df := [] }) else (.ret, { fr := [(2, .bool false)], bs := [], df := [] })
def mayQ (l : List Lease_T) : Bool := mayN l l.length 0

end Go.Proofs.Ytkanmigbbpppnaa
