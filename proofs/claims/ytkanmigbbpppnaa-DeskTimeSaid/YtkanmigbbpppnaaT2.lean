/- A part of the proof: contracts of functions. -/
import Derived.Test.YtkanmigbbpppnaaS2
import Derived.Test.YtkanmigbbpppnaaAbAny

set_option linter.unusedVariables false
set_option linter.unusedSimpArgs false
set_option maxRecDepth 100000
namespace Go.Proofs.Ytkanmigbbpppnaa
open Go Go.Ab
abbrev P2_T : Type := Int × Int
abbrev P2_fs : List Lf := [.fi .i64, .fi .i64]
def cxh (x : Bool) (l : List P2_T) (p : P2_T) (i : Int) : St := { fr := [(0, .slc x (l.map (mkV true P2_fs))), (3, .ptr 48 0 0 0), (7, .int .i64 (((l.map (mkV true P2_fs)).length : Nat) : Int)), (8, .int .i64 i)], bs := [(48, boxB (Tu.mk P2_fs p))], df := [] }
noncomputable def cx_s (x : Bool) (l : List P2_T) (p : P2_T) (i : Int) : Option (St ⊕ (Ex × St)) := stepK Try.prog cfg PKz LP0 52 0 (cxh x l p i)
noncomputable def cx_s_r (x : Bool) (l : List P2_T) (p : P2_T) (i : Int) : Option (St ⊕ Ex × St) :=
 bK (decide (i < (↑(m2 l).length : Int))) (oK (elemAt true [Lf.fi .i64, Lf.fi .i64] (m2 l) i) fun (d0 : Int × Int) => bK (decide (p.1 = d0.1) && (decide (p.2 = d0.2) && true)) (some (.inr (.ret, (sf [(4, i6 i)] [])))) (some (.inl (sf [(0, .slc x (m2 l)), (3, pt 48), (7, i6 (↑(m2 l).length : Int)), (8, i6 (IntKind.i64.wrap (i + 1)))] [(48, (bx [i6 p.1, i6 p.2]))])))) (some (.inr (.exit 0, (sf [] []))))
theorem cx_s_w (x : Bool) (l : List P2_T) (p : P2_T) (i : Int) : cx_s x l p i = cx_s_r x l p i := by kernel_rfl

def eqP (p q : P2_T) : Bool := decide (p.1 = q.1) && (decide (p.2 = q.2) && true)
theorem eqP_iff {p q : P2_T} : eqP p q = true ↔ p = q := by
 unfold eqP
 simp only [Bool.and_eq_true, decide_eq_true_eq, and_true]
 exact ⟨fun h => Prod.ext h.1 h.2, fun h => by rw [h]; exact ⟨rfl, rfl⟩⟩
theorem cxl : (loopsOf 0 (codeOf Try.prog 52)).map (·.1) = [0] := by kernel_rfl
theorem cxo : OneLoops Try.prog 52 := by unfold OneLoops; rw [cxl]; decide
theorem cxa : At 0 (codeOf Try.prog 52) 0 (.loop (bodyAt Try.prog 52 0)) := at_body cxo (by rw [cxl]; decide)
def cxX (k : Int) : Ex × St := if 0 ≤ k then (.ret, { fr := [(4, .int .i64 k)], bs := [], df := [] }) else (.exit 0, { fr := [], bs := [], df := [] })
theorem cx_run (x : Bool) (l : List P2_T) (p : P2_T) (hl : l.length ≤ 100000) : ∀ (j i : Nat), i + j = l.length → ∀ (fu : Nat), j < fu → Runs' Try.prog cfg PKz 52 0 fu (cxh x l p i) (cxX (firstN (eqP p) (l.drop i) i))
 | 0, i, hi, fu + 1, hm => by
  rw [List.drop_of_length_le (by omega)]
  refine Runs'.done (lp := LP0) LPok.none cxa ((cx_s_w x l p i).trans ?_)
  unfold cx_s_r
  rw [bK_neg (by simp; omega)]
  rfl
 | j + 1, i, hi, fu + 1, hm => by
  have hi' : i < l.length := by omega
  have e : l.drop i = l[i] :: l.drop (i + 1) := List.drop_eq_getElem_cons hi'
  have e1 : IntKind.i64.wrap ((i : Int) + 1) = ((i + 1 : Nat) : Int) := by rw [w64 (by omega) (by omega)]; omega
  have hs : cx_s x l p i = if eqP p l[i] = true then some (.inr (cxX i)) else some (.inl (cxh x l p ((i + 1 : Nat) : Int))) := by
   refine (cx_s_w x l p i).trans ?_
   unfold cx_s_r
   rw [bK_pos (by simp; omega), e1]
   refine oK_atq (Q := (· = _)) (fs := P2_fs) (0, 0) (by omega) (by simpa using hi') ?_
   rw [Int.toNat_natCast, getD_at hi']
   show bK (eqP p l[i]) _ _ = _
   cases eqP p l[i] with
   | true => unfold cxX; rw [if_pos rfl, if_pos (by omega)]; rfl
   | false => rfl
  rw [e]
  unfold firstN
  cases hq : eqP p l[i] with
  | true =>
   rw [hq, if_pos rfl] at hs
   rw [if_pos rfl]
   exact Runs'.done (lp := LP0) LPok.none cxa hs
  | false =>
   rw [hq, if_neg (by simp)] at hs
   rw [if_neg (by simp)]
   exact Runs'.step (lp := LP0) LPok.none cxa hs (cx_run x l p hl j (i + 1) (by omega) fu (by omega))
def cxHd (d : (Bool × List P2_T) × P2_T) : St := cxh d.1.1 d.1.2 d.2 0
theorem cxHd_inj (d d' : (Bool × List P2_T) × P2_T) (h : cxHd d = cxHd d') : d = d' := by
 obtain ⟨⟨x, l⟩, p⟩ := d
 obtain ⟨⟨x', l'⟩, p'⟩ := d'
 simp only [cxHd, cxh, boxB, St.mk.injEq, List.cons.injEq, Prod.mk.injEq, AV.slc.injEq, Blk.mk.injEq, and_true, true_and] at h
 rw [h.1.1.1, map_inj (fs := P2_fs) rfl h.1.1.2, mk_inj (fs := P2_fs) rfl h.2]
def cxQ (l : List P2_T) (p : P2_T) : Int := firstN (eqP p) l 0
noncomputable def cxL : LP := LP.of cxHd (fun d => d.1.2.length ≤ 100000) fun d => .ite (decide (0 ≤ cxQ d.1.2 d.2)) (.leaf (.ret, { fr := [(4, .int .i64 (cxQ d.1.2 d.2))], bs := [], df := [] })) (.leaf (.exit 0, { fr := [], bs := [], df := [] }))
noncomputable def cxP : LPs := LPs.add LP0 52 0 cxL
theorem cxP_ok : LPok Try.prog cfg PKz cxP 52 := LPok.addH LPok.none cxo (by
 rintro ⟨⟨x, l⟩, p⟩ h
 have := cx_run x l p h l.length 0 (by omega) rounds (by have h2 : l.length ≤ 100000 := h; simp only [rounds]; omega)
 rw [List.drop_zero] at this
 have e : cxQ l p = firstN (eqP p) l 0 := rfl
 rw [show ((0 : Nat) : Int) = 0 from rfl, ← e] at this
 unfold cxX at this
 simp only [Alt.val]
 by_cases hq : 0 ≤ cxQ l p
 ·rw [if_pos hq] at this; rw [decide_eq_true hq]; exact this
 ·rw [if_neg hq] at this; rw [decide_eq_false hq]; exact this)
abbrev cidx_id : Nat := 52
abbrev cidx_sh : Shp := [none, some 2]
abbrev cidx_fs : List Lf := [.fl true [.fi .i64, .fi .i64], .fi .i64, .fi .i64]
abbrev cidx_rsh : Shp := [none]
abbrev cidx_rfs : List Lf := [.fi .i64]
noncomputable def cidx_r (s_x : Bool) (s : List (Int × Int)) (v0 : Int) (v1 : Int) : Option Ret :=
 oK (cxL.dec (sf [(0, .slc s_x (m2 s)), (3, pt 48), (7, i6 (↑(m2 s).length : Int)), (8, i6 0)] [(48, (bx [i6 v0, i6 v1]))])) fun (d0 : (Bool × List (Int × Int)) × Int × Int) => bK (decide (0 ≤ cxQ d0.1.2 d0.2)) (some (rt (i6 (cxQ d0.1.2 d0.2)))) (some (rt (i6 (-1))))
theorem cidx_w (s_x : Bool) (s : List (Int × Int)) (v0 : Int) (v1 : Int) : unitQ Try.prog cfg PKz cxP false 52 (groupA cidx_sh (Tu.mk cidx_fs ((s_x, s), v0, v1))) [] = cidx_r s_x s v0 v1 := by kernel_rfl

noncomputable def cidxS : FS := ⟨cidx_sh, cidx_fs, cidx_rsh, cidx_rfs, fun d => d.1.2.length ≤ 100000, fun d => cxQ d.1.2 d.2, none⟩
theorem cidxO : ∀ d : Tu cidxS.fs, cidxS.pre d → CallOk Try.prog 52 (cidxS.args d) [] (cidxS.ret d) := by
 rintro ⟨⟨x, l⟩, p⟩ h
 refine CallOk.unit (fnOk PKz_ok 21) rfl cxP_ok.loops (o := false) (by show 0 ≤ 1000; decide) ((cidx_w x l p.1 p.2).trans ?_)
 show _ = some (cidxS.out (cxQ l p))
 unfold cidx_r
 refine oK_lpq (Q := (· = _)) cxHd_inj ((x, l), p) h ?_
 dsimp only
 have hh : cxQ l p = -1 ∨ (0 ≤ cxQ l p ∧ cxQ l p < l.length) := firstN_lt _ _
 refine bK_iq (Q := (· = _)) (fun _ => rfl) (fun c => ?_)
 rcases hh with h1 | h1
 ·rw [h1]; rfl
 ·exact absurd h1.1 c
noncomputable def Ct1 : PKs := PKz.add 52 cidxS.pk
theorem Ct1_ok : PKsOk Try.prog Ct1 := PKsOk.anyF PKz_ok 52 cidxS cidxO
abbrev cont_id : Nat := 35
abbrev cont_sh : Shp := [none, some 2]
abbrev cont_fs : List Lf := [.fl true [.fi .i64, .fi .i64], .fi .i64, .fi .i64]
abbrev cont_rsh : Shp := [none]
abbrev cont_rfs : List Lf := [.fb]
noncomputable def cont_r (s_x : Bool) (s : List (Int × Int)) (v0 : Int) (v1 : Int) : Option Ret :=
 oK (cidxS.dec [.slc s_x (m2 s), AV.agg [i6 v0, i6 v1]] []) fun (d0 : (Bool × List (Int × Int)) × Int × Int) => some (rt (.bool (decide (0 ≤ cxQ d0.1.2 d0.2))))
theorem cont_w (s_x : Bool) (s : List (Int × Int)) (v0 : Int) (v1 : Int) : unitQ Try.prog cfg Ct1 LP0 false 35 (groupA cont_sh (Tu.mk cont_fs ((s_x, s), v0, v1))) [] = cont_r s_x s v0 v1 := by kernel_rfl

def inQ (l : List P2_T) (p : P2_T) : Bool := decide (0 ≤ cxQ l p)
noncomputable def contS : FS := ⟨cont_sh, cont_fs, cont_rsh, cont_rfs, fun d => d.1.2.length ≤ 100000, fun d => inQ d.1.2 d.2, none⟩
theorem contO : ∀ d : Tu contS.fs, contS.pre d → CallOk Try.prog 35 (contS.args d) [] (contS.ret d) := by
 rintro ⟨⟨x, l⟩, p⟩ h
 refine CallOk.unit (fnOk Ct1_ok 21) rfl fLoops_none (o := false) (by show 0 ≤ 1000; decide) ((cont_w x l p.1 p.2).trans ?_)
 unfold cont_r
 exact oK_fsq (Q := (· = _)) cidxS ((x, l), p) h rfl
theorem inQ_iff {l : List P2_T} {p : P2_T} : inQ l p = true ↔ p ∈ l := by
 show decide (0 ≤ firstN (eqP p) l 0) = true ↔ p ∈ l
 rw [decide_eq_true_eq]
 by_cases hn : ∀ a ∈ l, eqP p a = false
 ·rw [firstN_none hn]
  refine ⟨fun h => by omega, fun h => ?_⟩
  have := hn p h
  rw [eqP_iff.2 rfl] at this
  cases this
 ·obtain ⟨k, hk, h1, h2⟩ := first_of (eqP p) l hn
  rw [firstN_at (i := 0) hk h1 h2]
  refine ⟨fun _ => ?_, fun _ => by omega⟩
  rw [eqP_iff.1 h1]
  exact List.getElem_mem hk

end Go.Proofs.Ytkanmigbbpppnaa
