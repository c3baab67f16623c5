/- A part of the proof: contracts of functions. -/
import Derived.Test.YtkanmigbbpppnaaQ
import Derived.Test.YtkanmigbbpppnaaAbAny

set_option linter.unusedVariables false
set_option linter.unusedSimpArgs false
set_option maxRecDepth 100000
namespace Go.Proofs.Ytkanmigbbpppnaa
open Go Go.Ab
noncomputable def Q1 : PKs := PKz.add 60 orderS.pk
theorem Q1_ok : PKsOk Try.prog Q1 := PKsOk.anyF PKz_ok 60 orderS orderO
def bsh (x : Bool) (l : List Lease_T) (t : Lease_T) (i j : Int) : St := { fr := [(0, .slc x (l.map (mkV true Lease_tfs))), (2, .fn 60 [] []), (4, .ptr 64 0 0 0), (8, .int .i64 ((l.map (mkV true Lease_tfs)).length : Int)), (9, .int .i64 i), (10, .int .i64 j)], bs := [(64, boxB (Tu.mk Lease_tfs t))], df := [] }
noncomputable def bs_s (x : Bool) (l : List Lease_T) (t : Lease_T) (i j : Int) : Option (St ⊕ (Ex × St)) := stepK Try.prog cfg Q1 LP0 59 0 (bsh x l t i j)
noncomputable def bs_s_r (x : Bool) (l : List Lease_T) (t : Lease_T) (i : Int) (j : Int) : Option (St ⊕ Ex × St) :=
 bK (decide (i < j))
 (oK (elemAt true Wait_tfs (mW l) (IntKind.i64.wrap ((IntKind.u64.wrap (IntKind.i64.wrap (i + j))).fdiv 2))) fun (d0 : Int × Int × Int × Int) =>
 oK (orderS.dec [AV.agg [i6 d0.1, i6 d0.2.1, i6 d0.2.2.1, i6 d0.2.2.2], AV.agg [i6 t.1, i6 t.2.1, i6 t.2.2.1, i6 t.2.2.2]] []) fun (d1 : Int × Int × Int × Int × Int × Int × Int × Int) =>
 bK (decide (ordF (d1.1, d1.2.1, d1.2.2.1, d1.2.2.2.1) d1.2.2.2.2 < 0)) (some (.inl (sf [(0, sl x l), (2, .fn 60 [] []), (4, pt 64), (8, i6 (↑(mW l).length : Int)), (9, i6 (IntKind.i64.wrap (IntKind.i64.wrap ((IntKind.u64.wrap (IntKind.i64.wrap (i + j))).fdiv 2) + 1))), (10, i6 j)] [(64, (bx [i6 t.1, i6 t.2.1, i6 t.2.2.1, i6 t.2.2.2]))]))) (some (.inl (sf [(0, sl x l), (2, .fn 60 [] []), (4, pt 64), (8, i6 (↑(mW l).length : Int)), (9, i6 i), (10, i6 (IntKind.i64.wrap ((IntKind.u64.wrap (IntKind.i64.wrap (i + j))).fdiv 2)))] [(64, (bx [i6 t.1, i6 t.2.1, i6 t.2.2.1, i6 t.2.2.2]))]))))
 (some (.inr (.exit 0, (sf [(0, sl x l), (2, .fn 60 [] []), (4, pt 64), (8, i6 (↑(mW l).length : Int)), (9, i6 i)] [(64, (bx [i6 t.1, i6 t.2.1, i6 t.2.2.1, i6 t.2.2.2]))]))))
theorem bs_s_w (x : Bool) (l : List Lease_T) (t : Lease_T) (i : Int) (j : Int) : bs_s x l t i j = bs_s_r x l t i j := by kernel_rfl

abbrev zL : Lease_T := (0, 0, 0, 0)
def bsN (l : List Lease_T) (t : Lease_T) : Nat → Nat → Nat → Nat
 | 0, i, _ => i
 | k + 1, i, j => if i < j then (if ordF (l.getD ((i + j) / 2) zL) t < 0 then bsN l t k ((i + j) / 2 + 1) j else bsN l t k i ((i + j) / 2)) else i
theorem bsl : (loopsOf 0 (codeOf Try.prog 59)).map (·.1) = [0] := by kernel_rfl
theorem bso : OneLoops Try.prog 59 := by unfold OneLoops; rw [bsl]; decide
theorem bsa : At 0 (codeOf Try.prog 59) 0 (.loop (bodyAt Try.prog 59 0)) := at_body bso (by rw [bsl]; decide)
def bsE (x : Bool) (l : List Lease_T) (t : Lease_T) (i : Int) : Ex × St := (.exit 0, { fr := [(0, .slc x (l.map (mkV true Lease_tfs))), (2, .fn 60 [] []), (4, .ptr 64 0 0 0), (8, .int .i64 ((l.map (mkV true Lease_tfs)).length : Int)), (9, .int .i64 i)], bs := [(64, boxB (Tu.mk Lease_tfs t))], df := [] })
theorem half_w (i j : Nat) (h : i + j ≤ 1000000) : IntKind.i64.wrap ((IntKind.u64.wrap (IntKind.i64.wrap ((i : Int) + (j : Int)))).fdiv 2) = (((i + j) / 2 : Nat) : Int) := by
 rw [w64 (n := (i : Int) + j) (by omega) (by omega)]
 have e : IntKind.u64.wrap ((i : Int) + j) = (i : Int) + j := by
  simp only [IntKind.wrap, IntKind.bits, IntKind.signed]
  simp
  omega
 rw [e, Int.fdiv_eq_ediv_of_nonneg _ (by decide)]
 rw [w64 (by omega) (by omega)]
 omega
theorem bs_run (x : Bool) (l : List Lease_T) (t : Lease_T) (hl : l.length ≤ 100000) : ∀ (k i j : Nat), j ≤ l.length → i ≤ j → j - i ≤ k → ∀ (m : Nat), k < m → Runs' Try.prog cfg Q1 59 0 m (bsh x l t i j) (bsE x l t ((bsN l t k i j : Nat) : Int))
 | 0, i, j, hj, hi, hk, m + 1, hm => by
  refine Runs'.done (lp := LP0) LPok.none bsa ((bs_s_w x l t i j).trans ?_)
  unfold bs_s_r
  rw [bK_neg (decide_eq_false (by omega))]
  rfl
 | k + 1, i, j, hj, hi, hk, m + 1, hm => by
  unfold bsN
  by_cases c : i < j
  ·rw [if_pos c]
   have hs : bs_s x l t i j = if ordF (l.getD ((i + j) / 2) zL) t < 0 then some (.inl (bsh x l t (((i + j) / 2 + 1 : Nat) : Int) j)) else some (.inl (bsh x l t i (((i + j) / 2 : Nat) : Int))) := by
    refine (bs_s_w x l t i j).trans ?_
    unfold bs_s_r
    rw [half_w i j (by omega), bK_pos (decide_eq_true (by omega))]
    refine oK_atq (Q := (· = _)) (fs := Lease_tfs) zL (by omega) (by rw [Int.toNat_natCast]; omega) ?_
    rw [Int.toNat_natCast]
    generalize l.getD ((i + j) / 2) zL = d
    refine oK_fsq (Q := (· = _)) orderS (d.1, d.2.1, d.2.2.1, d.2.2.2, t) trivial ?_
    refine bK_iq (Q := (· = _)) (fun c1 => ?_) (fun c1 => ?_)
    ·rw [if_pos c1, w64 (by omega) (by omega)]; rfl
    ·rw [if_neg c1]; rfl
   by_cases c1 : ordF (l.getD ((i + j) / 2) zL) t < 0
   ·rw [if_pos c1] at hs ⊢
    exact Runs'.step (lp := LP0) LPok.none bsa hs (bs_run x l t hl k _ j hj (by omega) (by omega) m (by omega))
   ·rw [if_neg c1] at hs ⊢
    exact Runs'.step (lp := LP0) LPok.none bsa hs (bs_run x l t hl k i _ (by omega) (by omega) (by omega) m (by omega))
  ·rw [if_neg c]
   refine Runs'.done (lp := LP0) LPok.none bsa ((bs_s_w x l t i j).trans ?_)
   unfold bs_s_r
   rw [bK_neg (decide_eq_false (by omega))]
   rfl

end Go.Proofs.Ytkanmigbbpppnaa
