/- A part of the proof: contracts of functions. -/
import Derived.Test.YtmjgiplgghmapaaG
import Derived.Test.YtmjgiplgghmapaaAbAny

set_option linter.unusedVariables false
set_option linter.unusedSimpArgs false
set_option maxRecDepth 100000
namespace Go.Proofs.Ytmjgiplgghmapaa
open Go Go.Ab
set_option maxHeartbeats 8000000
def pgL (n : Int) (b : List Int) (g : List Int) : List Int := g.foldl (fun e v => putL e v n) b
/-- A step as bytes. -/
def ptQ (s : Step_T) : List Int := if s.1 = 1 then (pgL 2 (putL (putL [] s.1 1) s.2.2.1 2) s.2.2.2.2.2.2.2.2.2) else if s.1 = 2 then (putL (putL [] s.1 1) s.2.1 1) else if s.1 = 3 then (textL (putL (putL [] s.1 1) s.2.1 1) s.2.2.2.2.2.2.2.1) else if s.1 = 4 then (putL (putL (putL [] s.1 1) s.2.1 1) s.2.2.2.1 1) else if s.1 = 6 then (putL (putL (putL [] s.1 1) s.2.1 1) s.2.2.2.1 1) else if s.1 = 7 then (putL (putL (putL [] s.1 1) s.2.1 1) s.2.2.2.1 1) else if s.1 = 8 then (putL (putL (putL [] s.1 1) s.2.1 1) s.2.2.2.1 1) else if s.1 = 5 then (textL (putL (putL (putL (putL [] s.1 1) s.2.1 1) s.2.2.2.1 1) s.2.2.2.2.1 1) s.2.2.2.2.2.2.2.1) else if s.1 = 12 then (putL (putL (putL [] s.1 1) s.2.2.2.2.2.1 1) s.2.2.2.2.2.2.1 2) else if s.1 = 14 then (pgL 1 (putL (putL (putL [] s.1 1) s.2.1 1) (s.2.2.2.2.2.2.2.2.2.length : Int) 1) s.2.2.2.2.2.2.2.2.2) else (putL (putL [] s.1 1) s.2.2.2.2.2.1 1)
theorem pf1 (d : Bool × List Int) (v : Int) : putF (d, v, 1) = (false, putL d.2 v 1) := by unfold putF; simp
theorem pf2 (d : Bool × List Int) (v : Int) : putF (d, v, 2) = (false, putL d.2 v 2) := by unfold putF; simp
theorem pg1 : ∀ (g b : List Int), pgF 1 (false, b) g = (false, pgL 1 b g)
  | [], b => rfl
  | a :: g, b => by
    show pgF 1 (putF ((false, b), a, 1)) g = (false, pgL 1 (putL b a 1) g)
    rw [pf1]; exact pg1 g _
theorem pg2 : ∀ (g b : List Int), pgF 2 (false, b) g = (false, pgL 2 b g)
  | [], b => rfl
  | a :: g, b => by
    show pgF 2 (putF ((false, b), a, 2)) g = (false, pgL 2 (putL b a 2) g)
    rw [pf2]; exact pg2 g _
theorem ft (b : List Int) (t : List UInt8) (h : b ≠ []) : textF ((false, b), t) = (false, textL b t) := by
  unfold textF
  cases b with
  | nil => exact absurd rfl h
  | cons a r => rfl
theorem putL_ne (b : List Int) (v : Int) : putL b v 1 ≠ [] := by
  unfold putL
  rw [if_pos (by decide)]
  simp [bytesV]
theorem pl_len (b : List Int) (v n : Int) {m : Nat} (h : b.length ≤ m) : (putL b v n).length ≤ m + 8 := by
  have := putL_len b v n; omega
noncomputable def ptS : FS := ⟨pt_sh, pt_fs, pt_rsh, pt_rfs, fun s => s.2.2.2.2.2.2.2.2.2.length ≤ 1000, fun s => (false, ptQ s), none⟩
theorem ptO : ∀ d : Tu ptS.fs, ptS.pre d → CallOk Try.prog 27 (ptS.args d) [] (ptS.ret d) := by
  rintro ⟨K, R, By, Fi, Of, I, To, T, gx, g⟩ hg
  have hg : g.length ≤ 1000 := hg
  refine CallOk.unit (fnOk PK9_ok 21) rfl pg3P_ok.loops (o := false) (by show 0 ≤ 1000; decide) ((pt_w K R By Fi Of I To T gx g).trans ?_)
  show _ = some (ptS.out (false, ptQ (K, R, By, Fi, Of, I, To, T, (gx, g))))
  unfold pt_r
  refine oK_fsq (Q := fun z => z = _) putBS ((true, []), K, 1) (by show (0 : Nat) ≤ 10000; decide) ?_
  rw [pf1]
  refine bK_iq (Q := fun z => z = _) (fun c0 => ?_) (fun c0 => ?_)
  · skip
    refine oK_fsq (Q := fun z => z = _) putBS ((false, (putL [] K 1)), By, 2) (Nat.le_trans (pl_len [] K 1 (m := 0) (Nat.le_refl _)) (by decide)) ?_
    rw [pf2]
    refine oK_lpf (Q := fun z => z = _) pg1Hd_inj ((false, (putL (putL [] K 1) By 2)), (gx, g)) ⟨hg, Nat.le_trans (pl_len _ By 2 (pl_len [] K 1 (m := 0) (Nat.le_refl _))) (by decide)⟩ rfl ?_
    dsimp only
    rw [pg2]
    have e : ptQ (K, R, By, Fi, Of, I, To, T, (gx, g)) = (pgL 2 (putL (putL [] K 1) By 2) g) := by unfold ptQ; dsimp only; rw [if_pos c0]
    rw [e]
    rfl
  · skip
    refine bK_iq (Q := fun z => z = _) (fun c1 => ?_) (fun c1 => ?_)
    · skip
      refine oK_fsq (Q := fun z => z = _) putBS ((false, (putL [] K 1)), R, 1) (Nat.le_trans (pl_len [] K 1 (m := 0) (Nat.le_refl _)) (by decide)) ?_
      rw [pf1]
      have e : ptQ (K, R, By, Fi, Of, I, To, T, (gx, g)) = (putL (putL [] K 1) R 1) := by unfold ptQ; dsimp only; rw [if_neg c0, if_pos c1]
      rw [e]
      rfl
    · skip
      refine bK_iq (Q := fun z => z = _) (fun c2 => ?_) (fun c2 => ?_)
      · skip
        refine oK_fsq (Q := fun z => z = _) putBS ((false, (putL [] K 1)), R, 1) (Nat.le_trans (pl_len [] K 1 (m := 0) (Nat.le_refl _)) (by decide)) ?_
        rw [pf1]
        refine oK_fsq (Q := fun z => z = _) textBS ((false, (putL (putL [] K 1) R 1)), T) (Nat.le_trans (pl_len _ R 1 (pl_len [] K 1 (m := 0) (Nat.le_refl _))) (by decide)) ?_
        rw [ft _ _ (putL_ne _ _)]
        have e : ptQ (K, R, By, Fi, Of, I, To, T, (gx, g)) = (textL (putL (putL [] K 1) R 1) T) := by unfold ptQ; dsimp only; rw [if_neg c0, if_neg c1, if_pos c2]
        rw [e]
        rfl
      · skip
        refine bK_iq (Q := fun z => z = _) (fun c3 => ?_) (fun c3 => ?_)
        · skip
          refine oK_fsq (Q := fun z => z = _) putBS ((false, (putL [] K 1)), R, 1) (Nat.le_trans (pl_len [] K 1 (m := 0) (Nat.le_refl _)) (by decide)) ?_
          rw [pf1]
          refine oK_fsq (Q := fun z => z = _) putBS ((false, (putL (putL [] K 1) R 1)), Fi, 1) (Nat.le_trans (pl_len _ R 1 (pl_len [] K 1 (m := 0) (Nat.le_refl _))) (by decide)) ?_
          rw [pf1]
          have e : ptQ (K, R, By, Fi, Of, I, To, T, (gx, g)) = (putL (putL (putL [] K 1) R 1) Fi 1) := by unfold ptQ; dsimp only; rw [if_neg c0, if_neg c1, if_neg c2, if_pos c3]
          rw [e]
          rfl
        · skip
          refine bK_iq (Q := fun z => z = _) (fun c4 => ?_) (fun c4 => ?_)
          · skip
            refine oK_fsq (Q := fun z => z = _) putBS ((false, (putL [] K 1)), R, 1) (Nat.le_trans (pl_len [] K 1 (m := 0) (Nat.le_refl _)) (by decide)) ?_
            rw [pf1]
            refine oK_fsq (Q := fun z => z = _) putBS ((false, (putL (putL [] K 1) R 1)), Fi, 1) (Nat.le_trans (pl_len _ R 1 (pl_len [] K 1 (m := 0) (Nat.le_refl _))) (by decide)) ?_
            rw [pf1]
            have e : ptQ (K, R, By, Fi, Of, I, To, T, (gx, g)) = (putL (putL (putL [] K 1) R 1) Fi 1) := by unfold ptQ; dsimp only; rw [if_neg c0, if_neg c1, if_neg c2, if_neg c3, if_pos c4]
            rw [e]
            rfl
          · skip
            refine bK_iq (Q := fun z => z = _) (fun c5 => ?_) (fun c5 => ?_)
            · skip
              refine oK_fsq (Q := fun z => z = _) putBS ((false, (putL [] K 1)), R, 1) (Nat.le_trans (pl_len [] K 1 (m := 0) (Nat.le_refl _)) (by decide)) ?_
              rw [pf1]
              refine oK_fsq (Q := fun z => z = _) putBS ((false, (putL (putL [] K 1) R 1)), Fi, 1) (Nat.le_trans (pl_len _ R 1 (pl_len [] K 1 (m := 0) (Nat.le_refl _))) (by decide)) ?_
              rw [pf1]
              have e : ptQ (K, R, By, Fi, Of, I, To, T, (gx, g)) = (putL (putL (putL [] K 1) R 1) Fi 1) := by unfold ptQ; dsimp only; rw [if_neg c0, if_neg c1, if_neg c2, if_neg c3, if_neg c4, if_pos c5]
              rw [e]
              rfl
            · skip
              refine bK_iq (Q := fun z => z = _) (fun c6 => ?_) (fun c6 => ?_)
              · skip
                refine oK_fsq (Q := fun z => z = _) putBS ((false, (putL [] K 1)), R, 1) (Nat.le_trans (pl_len [] K 1 (m := 0) (Nat.le_refl _)) (by decide)) ?_
                rw [pf1]
                refine oK_fsq (Q := fun z => z = _) putBS ((false, (putL (putL [] K 1) R 1)), Fi, 1) (Nat.le_trans (pl_len _ R 1 (pl_len [] K 1 (m := 0) (Nat.le_refl _))) (by decide)) ?_
                rw [pf1]
                have e : ptQ (K, R, By, Fi, Of, I, To, T, (gx, g)) = (putL (putL (putL [] K 1) R 1) Fi 1) := by unfold ptQ; dsimp only; rw [if_neg c0, if_neg c1, if_neg c2, if_neg c3, if_neg c4, if_neg c5, if_pos c6]
                rw [e]
                rfl
              · skip
                refine bK_iq (Q := fun z => z = _) (fun c7 => ?_) (fun c7 => ?_)
                · skip
                  refine oK_fsq (Q := fun z => z = _) putBS ((false, (putL [] K 1)), R, 1) (Nat.le_trans (pl_len [] K 1 (m := 0) (Nat.le_refl _)) (by decide)) ?_
                  rw [pf1]
                  refine oK_fsq (Q := fun z => z = _) putBS ((false, (putL (putL [] K 1) R 1)), Fi, 1) (Nat.le_trans (pl_len _ R 1 (pl_len [] K 1 (m := 0) (Nat.le_refl _))) (by decide)) ?_
                  rw [pf1]
                  refine oK_fsq (Q := fun z => z = _) putBS ((false, (putL (putL (putL [] K 1) R 1) Fi 1)), Of, 1) (Nat.le_trans (pl_len _ Fi 1 (pl_len _ R 1 (pl_len [] K 1 (m := 0) (Nat.le_refl _)))) (by decide)) ?_
                  rw [pf1]
                  refine oK_fsq (Q := fun z => z = _) textBS ((false, (putL (putL (putL (putL [] K 1) R 1) Fi 1) Of 1)), T) (Nat.le_trans (pl_len _ Of 1 (pl_len _ Fi 1 (pl_len _ R 1 (pl_len [] K 1 (m := 0) (Nat.le_refl _))))) (by decide)) ?_
                  rw [ft _ _ (putL_ne _ _)]
                  have e : ptQ (K, R, By, Fi, Of, I, To, T, (gx, g)) = (textL (putL (putL (putL (putL [] K 1) R 1) Fi 1) Of 1) T) := by unfold ptQ; dsimp only; rw [if_neg c0, if_neg c1, if_neg c2, if_neg c3, if_neg c4, if_neg c5, if_neg c6, if_pos c7]
                  rw [e]
                  rfl
                · skip
                  refine bK_iq (Q := fun z => z = _) (fun c8 => ?_) (fun c8 => ?_)
                  · skip
                    refine oK_fsq (Q := fun z => z = _) putBS ((false, (putL [] K 1)), I, 1) (Nat.le_trans (pl_len [] K 1 (m := 0) (Nat.le_refl _)) (by decide)) ?_
                    rw [pf1]
                    refine oK_fsq (Q := fun z => z = _) putBS ((false, (putL (putL [] K 1) I 1)), To, 2) (Nat.le_trans (pl_len _ I 1 (pl_len [] K 1 (m := 0) (Nat.le_refl _))) (by decide)) ?_
                    rw [pf2]
                    have e : ptQ (K, R, By, Fi, Of, I, To, T, (gx, g)) = (putL (putL (putL [] K 1) I 1) To 2) := by unfold ptQ; dsimp only; rw [if_neg c0, if_neg c1, if_neg c2, if_neg c3, if_neg c4, if_neg c5, if_neg c6, if_neg c7, if_pos c8]
                    rw [e]
                    rfl
                  · skip
                    refine bK_iq (Q := fun z => z = _) (fun c9 => ?_) (fun c9 => ?_)
                    · skip
                      refine oK_fsq (Q := fun z => z = _) putBS ((false, (putL [] K 1)), R, 1) (Nat.le_trans (pl_len [] K 1 (m := 0) (Nat.le_refl _)) (by decide)) ?_
                      rw [pf1]
                      refine oK_fsq (Q := fun z => z = _) putBS ((false, (putL (putL [] K 1) R 1)), ((g.map (mkV false [.fi .i64])).length : Int), 1) (Nat.le_trans (pl_len _ R 1 (pl_len [] K 1 (m := 0) (Nat.le_refl _))) (by decide)) ?_
                      rw [pf1]
                      refine oK_lpf (Q := fun z => z = _) pg3Hd_inj ((false, (putL (putL (putL [] K 1) R 1) ((g.map (mkV false [.fi .i64])).length : Int) 1)), (gx, g)) ⟨hg, Nat.le_trans (pl_len _ ((g.map (mkV false [.fi .i64])).length : Int) 1 (pl_len _ R 1 (pl_len [] K 1 (m := 0) (Nat.le_refl _)))) (by decide)⟩ rfl ?_
                      dsimp only
                      rw [pg1]
                      have e : ptQ (K, R, By, Fi, Of, I, To, T, (gx, g)) = (pgL 1 (putL (putL (putL [] K 1) R 1) (g.length : Int) 1) g) := by unfold ptQ; dsimp only; rw [if_neg c0, if_neg c1, if_neg c2, if_neg c3, if_neg c4, if_neg c5, if_neg c6, if_neg c7, if_neg c8, if_pos c9]
                      rw [e, List.length_map]
                      rfl
                    · skip
                      refine oK_fsq (Q := fun z => z = _) putBS ((false, (putL [] K 1)), I, 1) (Nat.le_trans (pl_len [] K 1 (m := 0) (Nat.le_refl _)) (by decide)) ?_
                      rw [pf1]
                      have e : ptQ (K, R, By, Fi, Of, I, To, T, (gx, g)) = (putL (putL [] K 1) I 1) := by unfold ptQ; dsimp only; rw [if_neg c0, if_neg c1, if_neg c2, if_neg c3, if_neg c4, if_neg c5, if_neg c6, if_neg c7, if_neg c8, if_neg c9]
                      rw [e]
                      rfl

end Go.Proofs.Ytmjgiplgghmapaa
