/- A part of the proof: contracts of functions. -/
import Derived.Test.YtjohkibidibihaaQ
import Derived.Test.YtjohkibidibihaaAbLp
set_option linter.unusedVariables false
set_option linter.unusedSimpArgs false
set_option maxRecDepth 100000
namespace Go.Proofs.Ytjohkibidibihaa
open Go Go.Ab
/-- It comes to a thing of these kinds. -/
def askGood (r : Option Ret) : Prop := ∃ y : Picks_T × Ask_T, pkOk y.1 ∧ r = some { pan := false, res := .agg (Tu.mk ask_rfs y.2), out := [boxB (Tu.mk ask_bs y.1)], new := [] }
theorem good_leaf {b : Picks_T} {a : Ask_T} (h : pkOk b) : askGood (some { pan := false, res := .agg (Tu.mk ask_rfs a), out := [boxB (Tu.mk ask_bs b)], new := [] }) := ⟨(b, a), h, rfl⟩
theorem ask_good (x : Bool) (l : List Int) (n : Int) (h : pkOk ((x, l), n)) : askGood (ask_r x l n) := by
  unfold ask_r
  refine oK_msq numS ((x, l), n) (5 : Int) h ?_
  have h0 := numF_ok (m := 5) h
  have k0 := numF_lt (m := 5) h (by omega)
  refine oK_msq numS (numF ((x, l), n) 5).1 (3 : Int) h0 ?_
  generalize numF ((x, l), n) 5 = z0 at h0 k0 ⊢
  have h1 := numF_ok (m := 3) h0
  refine oK_msq numS (numF z0.1 3).1 (3 : Int) h1 ?_
  generalize numF z0.1 3 = z1 at h1 ⊢
  have h2 := numF_ok (m := 3) h1
  refine oK_msq numS (numF z1.1 3).1 (20 : Int) h2 ?_
  generalize numF z1.1 3 = z2 at h2 ⊢
  have h3 := numF_ok (m := 20) h2
  generalize numF z2.1 20 = z3 at h3 ⊢
  refine bK_iq (fun _ => ?_) (fun _ => bK_iq (fun _ => ?_) (fun _ => bK_iq (fun _ => ?_) (fun _ => bK_iq (fun _ => ?_) (fun _ => ?_))))
  · refine oK_msq numS z3.1 (4 : Int) h3 ?_
    have h4 := numF_ok (m := 4) h3
    have k4 := numF_lt (m := 4) h3 (by omega)
    generalize numF z3.1 4 = z4 at h4 k4 ⊢
    refine bK_iq (fun _ => ?_) (fun c => absurd k4 c)
    refine oK_q (ldRow_strs [[97], [98], [110, 111, 116, 101, 115], [99]] _ (show 0 + Int.toNat z4.2 < 4 by omega)) ?_
    exact good_leaf (b := z4.1) (a := (_, _, _, _, _, 0, 0, (true, []))) h4
  · refine oK_msq numS z3.1 (2 : Int) h3 ?_
    have h4 := numF_ok (m := 2) h3
    refine oK_msq numS (numF z3.1 2).1 (6 : Int) h4 ?_
    generalize numF z3.1 2 = z4 at h4 ⊢
    have h5 := numF_ok (m := 6) h4
    exact good_leaf (b := (numF z4.1 6).1) (a := (_, _, _, _, [], _, _, (true, []))) h5
  · refine oK_msq writesS z3.1 (4 : Int) ⟨h3, by decide, by decide⟩ ?_
    have h4 := writesF_ok (most := 4) h3
    have l4 := writesF_len (most := 4) h3 (by omega)
    generalize writesF z3.1 4 = z4 at h4 l4 ⊢
    refine bK_bq (fun _ => ?_) (fun _ => ?_)
    · refine oK_msq writeS z4.1 () h4 ?_
      have h5 := writeF_ok h4
      refine oK_msq numS (writeF z4.1).1 (6 : Int) h5 ?_
      generalize writeF z4.1 = z5 at h5 ⊢
      exact good_leaf (b := (numF z5.1 6).1) (a := (_, _, _, _, [], _, 0, (false, [z5.2]))) (numF_ok h5)
    · refine oK_msq writeS z4.1 () h4 ?_
      have h5 := writeF_ok h4
      refine bK_tq (by simp) (bK_tq (by simp [fit59 (show z4.2.2.length + 1 ≤ 1000000 by omega)]) ?_)
      refine oK_msq numS (writeF z4.1).1 (6 : Int) h5 ?_
      generalize writeF z4.1 = z5 at h5 ⊢
      refine bK_tq (by simp) ?_
      rw [take_app]
      have e : List.map (mkV true Write_tfs) z4.2.2 ++ [AV.agg [AV.int IntKind.i64 z5.2.1, AV.str z5.2.2]] = (z4.2.2 ++ [z5.2]).map (mkV true Write_tfs) := by rw [List.map_append]; rfl
      rw [e]
      exact good_leaf (b := (numF z5.1 6).1) (a := (_, _, _, _, [], _, 0, (false, z4.2.2 ++ [z5.2]))) (numF_ok h5)
  · refine oK_msq writesS z3.1 (5 : Int) ⟨h3, by decide, by decide⟩ ?_
    have h4 := writesF_ok (most := 5) h3
    generalize writesF z3.1 5 = z4 at h4 ⊢
    refine bK_bq (fun _ => ?_) (fun _ => ?_)
    · refine oK_msq numS z4.1 (6 : Int) h4 ?_
      exact good_leaf (b := (numF z4.1 6).1) (a := (_, _, _, _, [], _, 0, (true, []))) (numF_ok h4)
    · refine oK_msq numS z4.1 (6 : Int) h4 ?_
      refine bK_tq (by simp) ?_
      rw [List.drop_zero, List.take_length]
      exact good_leaf (b := (numF z4.1 6).1) (a := (_, _, _, _, [], _, 0, (false, z4.2.2))) (numF_ok h4)
  · refine oK_msq numS z3.1 (6 : Int) h3 ?_
    exact good_leaf (b := (numF z3.1 6).1) (a := (_, _, _, _, [], _, 0, (true, []))) (numF_ok h3)

/-- What is asked, of numbers. -/
noncomputable def askF (b : Picks_T) : Picks_T × Ask_T := open Classical in if h : pkOk b then Classical.choose (ask_good b.1.1 b.1.2 b.2 h) else (b, (0, 0, 0, 0, [], 0, 0, (true, [])))
noncomputable def askS : MS := ⟨ask_bs, ask_sh, ask_fs, ask_rsh, ask_rfs, fun b _ => pkOk b, fun b _ => askF b, none⟩
theorem ask_v (p_l_x : Bool) (p_l : List Int) (p_n : Int) (h : pkOk ((p_l_x, p_l), p_n)) : ask_r p_l_x p_l p_n = some (askS.ret ((p_l_x, p_l), p_n) ()) := by
  have := (Classical.choose_spec (ask_good p_l_x p_l p_n h)).2
  rw [this]
  show _ = some (askS.out (askF ((p_l_x, p_l), p_n)))
  unfold askF
  rw [dif_pos h]
  rfl
theorem ask_ok : ∀ (b : Tu ask_bs) (d : Tu ask_fs), askS.pre b d → unitQ Try.prog cfg PK3 LP0 false 9 (askS.args d) (askS.out0 b) = some (askS.ret b d)
  | ((p_l_x, p_l), p_n), (), h => (ask_w p_l_x p_l p_n).trans (ask_v p_l_x p_l p_n h)
noncomputable def PK4 : PKs := PK3.add 9 askS.pk
theorem PK4_ok : PKsOk Try.prog PK4 := PKsOk.ms (cfg := cfg) PK3_ok (fnOk PK3_ok 21) 9 rfl LP0 fLoops_none askS ask_ok

end Go.Proofs.Ytjohkibidibihaa
