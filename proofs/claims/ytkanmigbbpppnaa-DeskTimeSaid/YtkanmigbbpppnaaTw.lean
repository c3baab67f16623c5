/- A part of the proof: contracts of functions. -/
import Derived.Test.YtkanmigbbpppnaaUw
import Derived.Test.YtkanmigbbpppnaaAbAny

set_option linter.unusedVariables false
set_option linter.unusedSimpArgs false
set_option maxRecDepth 100000
namespace Go.Proofs.Ytkanmigbbpppnaa
open Go Go.Ab

def putFw (l : List Wait_T) (w : Wait_T) : List Wait_T × Bool :=
 if 0 ≤ placeFw l w.1 ∧ (l.getD (placeFw l w.1).toNat (0, 0, 0, 0)).2.2.1 = w.2.2.1 then (l.set (placeFw l w.1).toNat w, true)
 else if 4 ≤ (dropFw l w.1).length then (l, false) else (dropFw l w.1 ++ [w], true)
def putQw (l : List Wait_T) (w : Wait_T) : List Wait_T × Bool := putFw l w
noncomputable def putSw : FS := ⟨putw_sh, putw_fs, putw_rsh, putw_rfs, fun d => d.1.2.length ≤ 100000, fun d => ((false, (putQw d.1.2 d.2).1), (putQw d.1.2 d.2).2), none⟩
theorem putEndw (K : List Wait_T) (w : Wait_T) : some ({ pan := false, res := .tup [.slc false (K.map (mkV true Wait_tfs) ++ [.agg [.int .i64 w.1, .int .i64 w.2.1, .int .i64 w.2.2.1, .int .i64 w.2.2.2]]), .bool true], out := [], new := [] } : Ret) = some (putSw.out ((false, K ++ [w]), true)) := by
 have e : (K ++ [w]).map (mkV true Wait_tfs) = K.map (mkV true Wait_tfs) ++ [.agg [.int .i64 w.1, .int .i64 w.2.1, .int .i64 w.2.2.1, .int .i64 w.2.2.2]] := by rw [List.map_append]; rfl
 show _ = some ({ pan := false, res := .tup [.slc false ((K ++ [w]).map (mkV true Wait_tfs)), .bool true], out := [], new := [] } : Ret)
 rw [e]
theorem putOw : ∀ d : Tu putSw.fs, putSw.pre d → CallOk Try.prog 40 (putSw.args d) [] (putSw.ret d) := by
 rintro ⟨⟨x, l⟩, w⟩ h
 have h' : l.length ≤ 100000 := h
 by_cases h0 : l = []
 ·subst h0
  exact CallOk.unit (fnOk PKs0_ok 21) rfl fLoops_none (o := false) (by show 0 ≤ 1000; decide) (put0w_w x w)
 have h1 : 1 ≤ l.length := by
  rcases l with _ | ⟨a, r⟩
  ·exact absurd rfl h0
  ·simp
 refine CallOk.unit (fnOk PKu1_okw 21) rfl fLoops_none (o := false) (by show 0 ≤ 1000; decide) ((putw_w x l w.1 w.2.1 w.2.2.1 w.2.2.2).trans ?_)
 show _ = some (putSw.out ((false, (putFw l w).1), (putFw l w).2))
 have hk : dckFw (l, w.1) = dropFw l w.1 := rfl
 have ez : (dckZw (l, w.1)).take (dropFw l w.1).length = dropFw l w.1 := keepZ_take _ _ _
 have el : (dckZw (l, w.1)).length = l.length := keepZ_len _ _ _
 have hle := dropF_lew l w.1
 unfold putw_r
 refine oK_pkq (Q := (· = _)) cl_injw (x, l) ⟨h1, h'⟩ ?_
 refine oK_fsq (Q := (· = _)) placeSw ((x, l), w.1) h' ?_
 have hpl : placeQw l w.1 = placeFw l w.1 := rfl
 simp only [hpl]
 have hlt := firstN_lt (fun v : Wait_T => decide (v.1 = w.1)) l
 have hlt' : placeFw l w.1 = -1 ∨ (0 ≤ placeFw l w.1 ∧ placeFw l w.1 < l.length) := hlt
 refine bK_i (fun c1 => ?_) (fun c1 => ?_)
 ·have hi : (placeFw l w.1).toNat < l.length := by omega
  refine oK_atq (Q := (· = _)) (fs := Wait_tfs) (0, 0, 0, 0) c1 hi ?_
  refine bK_i (fun c2 => ?_) (fun c2 => ?_)
  ·have rest : putFw l w = (l.set (placeFw l w.1).toNat w, true) := by unfold putFw; rw [if_pos ⟨c1, c2⟩]
   rw [rest, bK_pos (by simp only [List.length_map]; exact decide_eq_true (by omega))]
   refine (oK_pos (by rw [Nat.zero_add]; exact stRow_map (fs := Wait_tfs) l _ hi w)).trans ?_
   rw [bK_pos (by simp), List.drop_zero, List.take_of_length_le (by simp)]
   rfl
  ·have rest : putFw l w = if 4 ≤ (dropFw l w.1).length then (l, false) else (dropFw l w.1 ++ [w], true) := by unfold putFw; rw [if_neg (fun hh => c2 hh.2)]
   refine oK_pkq (Q := (· = _)) dpA_injw ((x, l), w.1) ⟨h1, h'⟩ ?_
   simp only [hk]
   refine bK_tq (Q := (· = _)) (by simp only [List.length_map]; exact decide_eq_true (by omega)) ?_
   refine bK_i (fun c1 => ?_) (fun c1 => ?_)
   ·refine oK_pkq (Q := (· = _)) cl_injw (x, l) ⟨h1, h'⟩ ?_
    rw [bK_pos (by simp), List.drop_zero, List.take_length, rest, if_pos (by omega)]
    rfl
   ·refine bK_tq (Q := (· = _)) (by simp only [List.length_map]; exact decide_eq_true (by omega)) ?_
    have hZ : (dropFw l w.1).length ≤ ((dckZw (l, w.1)).map (mkV true Wait_tfs)).length := by simp only [List.length_map]; omega
    have eZ : List.take (dropFw l w.1).length ((dckZw (l, w.1)).map (mkV true Wait_tfs)) = (dropFw l w.1).map (mkV true Wait_tfs) := by rw [← List.map_take, ez]
    rw [rest, if_neg (by omega)]
    refine bK_bq (Q := (· = _)) (fun _ => ?_) (fun c2 => ?_)
    ·rw [bK_pos (by rw [eZ]; simp), app_end _ _ _ hZ, eZ]
     exact putEndw _ _
    ·have hlt : (dropFw l w.1).length + 1 ≤ (dckZw (l, w.1)).length := by
      have : ¬ (dropFw l w.1).length = (dckZw (l, w.1)).length := by
       intro e
       rw [Bool.and_eq_false_iff] at c2
       rcases c2 with c2 | c2
       ·exact of_decide_eq_false c2 ⟨trivial, by simpa using e⟩
       ·rw [drfitw (by omega)] at c2; cases c2
      omega
     rw [bK_pos (by simp only [List.length_map]; exact decide_eq_true (by omega)), bK_pos (by rw [Nat.zero_add, Nat.zero_add, eZ]; simp only [List.length_append, List.length_map, List.length_cons]; exact decide_eq_true (by omega)), app_in _ _ _ _ hZ, eZ]
     exact putEndw _ _
 ·have rest : putFw l w = if 4 ≤ (dropFw l w.1).length then (l, false) else (dropFw l w.1 ++ [w], true) := by unfold putFw; rw [if_neg (fun hh => c1 hh.1)]
  refine oK_pkq (Q := (· = _)) dpA_injw ((x, l), w.1) ⟨h1, h'⟩ ?_
  simp only [hk]
  refine bK_tq (Q := (· = _)) (by simp only [List.length_map]; exact decide_eq_true (by omega)) ?_
  refine bK_i (fun c1 => ?_) (fun c1 => ?_)
  ·refine oK_pkq (Q := (· = _)) cl_injw (x, l) ⟨h1, h'⟩ ?_
   rw [bK_pos (by simp), List.drop_zero, List.take_length, rest, if_pos (by omega)]
   rfl
  ·refine bK_tq (Q := (· = _)) (by simp only [List.length_map]; exact decide_eq_true (by omega)) ?_
   have hZ : (dropFw l w.1).length ≤ ((dckZw (l, w.1)).map (mkV true Wait_tfs)).length := by simp only [List.length_map]; omega
   have eZ : List.take (dropFw l w.1).length ((dckZw (l, w.1)).map (mkV true Wait_tfs)) = (dropFw l w.1).map (mkV true Wait_tfs) := by rw [← List.map_take, ez]
   rw [rest, if_neg (by omega)]
   refine bK_bq (Q := (· = _)) (fun _ => ?_) (fun c2 => ?_)
   ·rw [bK_pos (by rw [eZ]; simp), app_end _ _ _ hZ, eZ]
    exact putEndw _ _
   ·have hlt : (dropFw l w.1).length + 1 ≤ (dckZw (l, w.1)).length := by
     have : ¬ (dropFw l w.1).length = (dckZw (l, w.1)).length := by
      intro e
      rw [Bool.and_eq_false_iff] at c2
      rcases c2 with c2 | c2
      ·exact of_decide_eq_false c2 ⟨trivial, by simpa using e⟩
      ·rw [drfitw (by omega)] at c2; cases c2
     omega
    rw [bK_pos (by simp only [List.length_map]; exact decide_eq_true (by omega)), bK_pos (by rw [Nat.zero_add, Nat.zero_add, eZ]; simp only [List.length_append, List.length_map, List.length_cons]; exact decide_eq_true (by omega)), app_in _ _ _ _ hZ, eZ]
    exact putEndw _ _

end Go.Proofs.Ytkanmigbbpppnaa
