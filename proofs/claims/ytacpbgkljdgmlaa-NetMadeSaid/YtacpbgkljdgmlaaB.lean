/- A part of the proof: contracts of functions. -/
import Derived.Test.YtacpbgkljdgmlaaA
import Derived.Test.YtacpbgkljdgmlaaAbAny

set_option linter.unusedVariables false
set_option linter.unusedSimpArgs false
set_option maxRecDepth 100000
namespace Go.Proofs.Ytacpbgkljdgmlaa
open Go Go.Ab
def aph (a b : List UInt8) (n i : Int) : St := { fr := [(0, .str a), (1, .str b), (5, .int .i64 n), (6, .int .i64 i)], bs := [], df := [] }
noncomputable def ap_s (a b : List UInt8) (n i : Int) : Option (St ⊕ (Ex × St)) := stepK Try.prog cfg A9 LP0 18 0 (aph a b n i)
noncomputable def ap_s_r (a : List UInt8) (b : List UInt8) (n : Int) (i : Int) : Option (St ⊕ Ex × St) :=
  bK (decide (i < (↑a.length : Int))) (bK (decide (0 ≤ i)) (oK a[i.toNat]? fun (d0 : UInt8) => bK (decide (0 ≤ i)) (oK b[i.toNat]? fun (d1 : UInt8) => bK (!decide ((↑d0.toNat : Int) = (↑d1.toNat : Int))) (some (Sum.inl { fr := [(0, AV.str a), (1, AV.str b), (5, AV.int IntKind.i64 (IntKind.i64.wrap (n + 1))), (6, AV.int IntKind.i64 (IntKind.i64.wrap (i + 1)))], bs := [], df := [] })) (some (Sum.inl { fr := [(0, AV.str a), (1, AV.str b), (5, AV.int IntKind.i64 n), (6, AV.int IntKind.i64 (IntKind.i64.wrap (i + 1)))], bs := [], df := [] }))) none) none) (some (Sum.inr (Ex.exit 0, { fr := [(5, AV.int IntKind.i64 n)], bs := [], df := [] })))
theorem ap_s_w (a : List UInt8) (b : List UInt8) (n : Int) (i : Int) : ap_s a b n i = ap_s_r a b n i := by kernel_rfl

/-- In how many bytes. -/
def difN : List UInt8 → List UInt8 → Nat
  | [], _ => 0
  | _, [] => 0
  | a :: r, b :: s => (if a = b then 0 else 1) + difN r s
theorem apl : (loopsOf 0 (codeOf Try.prog 18)).map (·.1) = [0] := by kernel_rfl
theorem apo : OneLoops Try.prog 18 := by unfold OneLoops; rw [apl]; decide
theorem apa : At 0 (codeOf Try.prog 18) 0 (.loop (bodyAt Try.prog 18 0)) := at_body apo (by rw [apl]; decide)
def apE (n : Int) : Ex × St := (.exit 0, { fr := [(5, .int .i64 n)], bs := [], df := [] })
theorem difN_le : ∀ (a b : List UInt8), difN a b ≤ a.length
  | [], _ => by unfold difN; omega
  | a :: r, [] => by unfold difN; omega
  | a :: r, b :: s => by
    have := difN_le r s
    unfold difN
    simp only [List.length_cons]
    split <;> omega
theorem ap_run (a b : List UInt8) (he : a.length = b.length) (hl : a.length ≤ 1000) : ∀ (j i : Nat), i + j = a.length → ∀ (n : Nat), n ≤ i → ∀ (m : Nat), j < m → Runs' Try.prog cfg A9 18 0 m (aph a b n i) (apE ((n + difN (a.drop i) (b.drop i) : Nat) : Int))
  | 0, i, hi, n, hn, m + 1, hm => by
    rw [List.drop_of_length_le (by omega)]
    refine Runs'.done (lp := LP0) LPok.none apa ((ap_s_w a b n i).trans ?_)
    unfold ap_s_r
    rw [bK_neg (decide_eq_false (by omega))]
    rfl
  | j + 1, i, hi, n, hn, m + 1, hm => by
    have hi1 : i < a.length := by omega
    have hi2 : i < b.length := by omega
    have e1 : a.drop i = a[i] :: a.drop (i + 1) := List.drop_eq_getElem_cons hi1
    have e2 : b.drop i = b[i] :: b.drop (i + 1) := List.drop_eq_getElem_cons hi2
    have e3 : IntKind.i64.wrap ((i : Int) + 1) = ((i + 1 : Nat) : Int) := by rw [w64 (by omega) (by omega)]; omega
    have e4 : IntKind.i64.wrap ((n : Int) + 1) = ((n + 1 : Nat) : Int) := by rw [w64 (by omega) (by omega)]; omega
    have hs : ap_s a b n i = some (.inl (aph a b ((n + (if a[i] = b[i] then 0 else 1) : Nat) : Int) ((i + 1 : Nat) : Int))) := by
      refine (ap_s_w a b n i).trans ?_
      unfold ap_s_r
      rw [e3, e4, bK_pos (decide_eq_true (by omega)), bK_pos (decide_eq_true (by omega))]
      rw [Int.toNat_natCast, List.getElem?_eq_getElem hi1, oK_some, bK_pos (decide_eq_true (by omega)), List.getElem?_eq_getElem hi2, oK_some]
      by_cases c : a[i] = b[i]
      · rw [if_pos c, c, bK_neg (by simp)]; rfl
      · rw [if_neg c, bK_pos]
        · rfl
        · rw [decide_eq_false (fun h => c (UInt8.toNat_inj.1 (by omega)))]; rfl
    rw [e1, e2]
    have := Runs'.step (lp := LP0) LPok.none apa hs (ap_run a b he hl j (i + 1) (by omega) (n + (if a[i] = b[i] then 0 else 1)) (by split <;> omega) m (by omega))
    have e5 : n + difN (a[i] :: a.drop (i + 1)) (b[i] :: b.drop (i + 1)) = n + (if a[i] = b[i] then 0 else 1) + difN (a.drop (i + 1)) (b.drop (i + 1)) := by
      rw [difN]; omega
    rw [e5]
    exact this
/-- In how many bytes. -/
def difQ (a b : List UInt8) : Int := (difN a b : Int)
abbrev ApD : Type := List UInt8 × List UInt8
def apHd (d : ApD) : St := aph d.1 d.2 0 0
noncomputable def apL : LP := LP.of apHd (fun d => d.1.length = d.2.length ∧ d.1.length ≤ 1000) fun d => .leaf (.exit 0, { fr := [(5, .int .i64 (difQ d.1 d.2))], bs := [], df := [] })
noncomputable def apLP : LPs := LPs.add LP0 18 0 apL
theorem apLP_ok : LPok Try.prog cfg A9 apLP 18 := LPok.addH LPok.none apo fun d h => by
  have := ap_run d.1 d.2 h.1 h.2 d.1.length 0 (by omega) 0 (by omega) rounds (by have := h.2; simp only [rounds]; omega)
  rw [List.drop_zero, List.drop_zero, Nat.zero_add] at this
  exact this
theorem apHd_inj (d d' : ApD) (h : apHd d = apHd d') : d = d' := by
  obtain ⟨a, b⟩ := d
  obtain ⟨a', b'⟩ := d'
  simp only [apHd, aph, St.mk.injEq, List.cons.injEq, Prod.mk.injEq, AV.str.injEq, and_true, true_and] at h
  rw [h.1, h.2]
abbrev apart_id : Nat := 18
abbrev apart_sh : Shp := [none, none]
abbrev apart_fs : List Lf := [.fs, .fs]
abbrev apart_rsh : Shp := [none]
abbrev apart_rfs : List Lf := [.fi .i64]
noncomputable def apart_r (a : List UInt8) (b : List UInt8) : Option Ret :=
  bK (!decide ((↑a.length : Int) = (↑b.length : Int))) (some { pan := false, res := AV.int IntKind.i64 9, out := [], new := [] }) (oK (apL.dec { fr := [(0, AV.str a), (1, AV.str b), (5, AV.int IntKind.i64 0), (6, AV.int IntKind.i64 0)], bs := [], df := [] }) fun (d0 : List UInt8 × List UInt8) => some { pan := false, res := AV.int IntKind.i64 (difQ d0.fst d0.snd), out := [], new := [] })
theorem apart_w (a : List UInt8) (b : List UInt8) : unitQ Try.prog cfg A9 apLP false 18 (groupA apart_sh (Tu.mk apart_fs (a, b))) [] = apart_r a b := by kernel_rfl

/-- Apart. -/
def aptQ (a b : List UInt8) : Int := if a.length = b.length then difQ a b else 9
noncomputable def apartS : FS := ⟨apart_sh, apart_fs, apart_rsh, apart_rfs, fun d => d.1.length ≤ 1000, fun d => aptQ d.1 d.2, none⟩
theorem apart_v (a : List UInt8) (b : List UInt8) (h : apartS.pre (a, b)) : apart_r a b = some (apartS.ret (a, b)) := by
  have h' : a.length ≤ 1000 := h
  show _ = some (apartS.out (aptQ a b))
  unfold apart_r aptQ
  refine bK_nq (Q := fun z => z = _) (fun c => ?_) (fun c => ?_)
  · rw [if_neg (fun e => c (by rw [e]))]; rfl
  · have e : a.length = b.length := by omega
    rw [if_pos e]
    refine oK_lpq (Q := fun z => z = _) apHd_inj (a, b) ⟨e, h'⟩ ?_
    rfl
theorem apartO : ∀ d : Tu apartS.fs, apartS.pre d → CallOk Try.prog 18 (apartS.args d) [] (apartS.ret d)
  | (a, b), h => CallOk.unit (fnOk A9_ok 21) rfl apLP_ok.loops (o := false) (by show 0 ≤ 1000; decide) ((apart_w a b).trans (apart_v a b h))
noncomputable def B1 : PKs := A9.add 18 apartS.pk
theorem B1_ok : PKsOk Try.prog B1 := PKsOk.anyF A9_ok 18 apartS apartO
def sentB (s : List Gram_T) : List (Nat × Blk) := [(1280, { v := 0, k := .row, fz := false, sz := 3, es := s.map (mkV true Gram_tfs) })]
def n5h (x : Bool) (l : List Row4) (fx : Bool) (f : List Gram_T) (s : List Gram_T) (i k : Int) (near : Bool) (want m : Int) : St := { fr := [(0, .slc x (l.map (mkV true Row4_fs))), (3, .slc fx (f.map (mkV true Gram_tfs))), (4, .sref 1280 0 0 (s.map (mkV true Gram_tfs)).length), (5, .int .i64 i), (9, .int .i64 k), (10, .bool near), (11, .int .i64 want), (12, .int .i64 m)], bs := sentB s, df := [] }
noncomputable def n5_s (x : Bool) (l : List Row4) (fx : Bool) (f : List Gram_T) (s : List Gram_T) (i k : Int) (near : Bool) (want m : Int) : Option (St ⊕ (Ex × St)) := stepK Try.prog cfg B1 LP0 4 5 (n5h x l fx f s i k near want m)
noncomputable def n5_s_r (x : Bool) (l : List Row4) (fx : Bool) (f : List Gram_T) (s : List Gram_T) (i : Int) (k : Int) (near : Bool) (want : Int) (m : Int) : Option (St ⊕ Ex × St) :=
  bK (decide (0 + (List.map (mkV true Gram_tfs) s).length ≤ (List.map (mkV true Gram_tfs) s).length))
  (bK (decide (m < (↑(List.map (mkV true Gram_tfs) s).length : Int)))
    (bK near (some (Sum.inl { fr := [(0, AV.slc x (List.map (mkV true [Lf.fi IntKind.u8, Lf.fi IntKind.u8, Lf.fi IntKind.u8, Lf.fi IntKind.u8]) l)), (3, AV.slc fx (List.map (mkV true Gram_tfs) f)), (4, AV.sref 1280 0 0 (List.map (mkV true Gram_tfs) s).length), (5, AV.int IntKind.i64 i), (9, AV.int IntKind.i64 k), (10, AV.bool true), (11, AV.int IntKind.i64 want), (12, AV.int IntKind.i64 (IntKind.i64.wrap (m + 1)))], bs := [(1280, { v := 0, k := BK.row, fz := false, sz := 3, es := List.map (mkV true Gram_tfs) s })], df := [] }))
      (oK (elemAt true Gram_tfs (List.map (mkV true Gram_tfs) f) k) fun (d0 : Int × List UInt8 × Bool) =>
        bK (decide (0 ≤ m ∧ m < (↑(List.map (mkV true Gram_tfs) s).length : Int)))
          (bK (decide (0 + m.toNat < (List.map (mkV true Gram_tfs) s).length)) (oK (ldRow [Lf.fs] (List.map (mkV true Gram_tfs) s) (0 + m.toNat) 1) fun (d1 : List UInt8) => oK (apartS.dec [AV.str d0.snd.fst, AV.str d1] []) fun (d2 : List UInt8 × List UInt8) => bK (decide (aptQ d2.fst d2.snd = want)) (oK (elemAt true Gram_tfs (List.map (mkV true Gram_tfs) f) k) fun (d3 : Int × List UInt8 × Bool) => some (Sum.inl { fr := [(0, AV.slc x (List.map (mkV true [Lf.fi IntKind.u8, Lf.fi IntKind.u8, Lf.fi IntKind.u8, Lf.fi IntKind.u8]) l)), (3, AV.slc fx (List.map (mkV true Gram_tfs) f)), (4, AV.sref 1280 0 0 (List.map (mkV true Gram_tfs) s).length), (5, AV.int IntKind.i64 i), (9, AV.int IntKind.i64 k), (10, AV.bool (decide (d3.fst = 2))), (11, AV.int IntKind.i64 want), (12, AV.int IntKind.i64 (IntKind.i64.wrap (m + 1)))], bs := [(1280, { v := 0, k := BK.row, fz := false, sz := 3, es := List.map (mkV true Gram_tfs) s })], df := [] })) (some (Sum.inl { fr := [(0, AV.slc x (List.map (mkV true [Lf.fi IntKind.u8, Lf.fi IntKind.u8, Lf.fi IntKind.u8, Lf.fi IntKind.u8]) l)), (3, AV.slc fx (List.map (mkV true Gram_tfs) f)), (4, AV.sref 1280 0 0 (List.map (mkV true Gram_tfs) s).length), (5, AV.int IntKind.i64 i), (9, AV.int IntKind.i64 k), (10, AV.bool false), (11, AV.int IntKind.i64 want), (12, AV.int IntKind.i64 (IntKind.i64.wrap (m + 1)))], bs := [(1280, { v := 0, k := BK.row, fz := false, sz := 3, es := List.map (mkV true Gram_tfs) s })], df := [] }))) none) none))
    (some (Sum.inr (Ex.exit 5, { fr := [(0, AV.slc x (List.map (mkV true [Lf.fi IntKind.u8, Lf.fi IntKind.u8, Lf.fi IntKind.u8, Lf.fi IntKind.u8]) l)), (3, AV.slc fx (List.map (mkV true Gram_tfs) f)), (4, AV.sref 1280 0 0 (List.map (mkV true Gram_tfs) s).length), (5, AV.int IntKind.i64 i), (9, AV.int IntKind.i64 k), (10, AV.bool near)], bs := [(1280, { v := 0, k := BK.row, fz := false, sz := 3, es := List.map (mkV true Gram_tfs) s })], df := [] }))))
  none
theorem n5_s_w (x : Bool) (l : List Row4) (fx : Bool) (f : List Gram_T) (s : List Gram_T) (i : Int) (k : Int) (near : Bool) (want : Int) (m : Int) : n5_s x l fx f s i k near want m = n5_s_r x l fx f s i k near want m := by kernel_rfl

end Go.Proofs.Ytacpbgkljdgmlaa
