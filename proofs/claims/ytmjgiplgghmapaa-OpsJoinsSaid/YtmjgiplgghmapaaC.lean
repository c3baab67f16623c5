/- A part of the proof: contracts of functions. -/
import Derived.Test.YtmjgiplgghmapaaB
import Derived.Test.YtmjgiplgghmapaaAbAny

set_option linter.unusedVariables false
set_option linter.unusedSimpArgs false
set_option maxRecDepth 100000
namespace Go.Proofs.Ytmjgiplgghmapaa
open Go Go.Ab
set_option maxHeartbeats 8000000
theorem takeV_nn : ∀ (l : List Int) (v : Int), 0 ≤ v → byt l → 0 ≤ takeV v l
  | [], v, hv, _ => hv
  | a :: l, v, hv, hb => takeV_nn l (v * 256 + a) (by have := hb a (by simp); omega) fun w hw => hb w (List.mem_cons_of_mem _ hw)
theorem nmV_nn (d : RdD) (_ : 1 ≤ d.2 ∨ True) (hb : byt d.1.2) : 0 ≤ nmV d := takeV_nn _ 0 (by decide) (byt_take hb _)
/-- A step, read; what is left. -/
def stE : RdD → Option Step_T × List Int
  | ((x, b), k) => if k = 1 then (if nmO ((x, b), 2) = true then if gnO ((x, nmB ((x, b), 2)), 4, 2) = true then (some (k, 0, nmV ((x, b), 2), 0, 0, 0, 0, [], (noI (gnL ((x, nmB ((x, b), 2)), 4, 2)), gnL ((x, nmB ((x, b), 2)), 4, 2))), gnB ((x, nmB ((x, b), 2)), 4, 2)) else (none, gnB ((x, nmB ((x, b), 2)), 4, 2)) else (none, b)) else if k = 2 then (if nmO ((x, b), 1) = true then (some (k, nmV ((x, b), 1), 0, 0, 0, 0, 0, [], (true, [])), nmB ((x, b), 1)) else (none, b)) else if k = 3 then (if nmO ((x, b), 1) = true then if txO (x, nmB ((x, b), 1)) = true then (some (k, nmV ((x, b), 1), 0, 0, 0, 0, 0, txV (x, nmB ((x, b), 1)), (true, [])), txB (x, nmB ((x, b), 1))) else (none, nmB ((x, b), 1)) else (none, b)) else if k = 4 then (if nmO ((x, b), 1) = true then if nmO ((x, nmB ((x, b), 1)), 1) = true then (some (k, nmV ((x, b), 1), 0, nmV ((x, nmB ((x, b), 1)), 1), 0, 0, 0, [], (true, [])), nmB ((x, nmB ((x, b), 1)), 1)) else (none, nmB ((x, b), 1)) else (none, b)) else if k = 6 then (if nmO ((x, b), 1) = true then if nmO ((x, nmB ((x, b), 1)), 1) = true then (some (k, nmV ((x, b), 1), 0, nmV ((x, nmB ((x, b), 1)), 1), 0, 0, 0, [], (true, [])), nmB ((x, nmB ((x, b), 1)), 1)) else (none, nmB ((x, b), 1)) else (none, b)) else if k = 7 then (if nmO ((x, b), 1) = true then if nmO ((x, nmB ((x, b), 1)), 1) = true then (some (k, nmV ((x, b), 1), 0, nmV ((x, nmB ((x, b), 1)), 1), 0, 0, 0, [], (true, [])), nmB ((x, nmB ((x, b), 1)), 1)) else (none, nmB ((x, b), 1)) else (none, b)) else if k = 8 then (if nmO ((x, b), 1) = true then if nmO ((x, nmB ((x, b), 1)), 1) = true then (some (k, nmV ((x, b), 1), 0, nmV ((x, nmB ((x, b), 1)), 1), 0, 0, 0, [], (true, [])), nmB ((x, nmB ((x, b), 1)), 1)) else (none, nmB ((x, b), 1)) else (none, b)) else if k = 5 then (if nmO ((x, b), 1) = true then if nmO ((x, nmB ((x, b), 1)), 1) = true then if nmO ((x, nmB ((x, nmB ((x, b), 1)), 1)), 1) = true then if txO (x, nmB ((x, nmB ((x, nmB ((x, b), 1)), 1)), 1)) = true then (some (k, nmV ((x, b), 1), 0, nmV ((x, nmB ((x, b), 1)), 1), nmV ((x, nmB ((x, nmB ((x, b), 1)), 1)), 1), 0, 0, txV (x, nmB ((x, nmB ((x, nmB ((x, b), 1)), 1)), 1)), (true, [])), txB (x, nmB ((x, nmB ((x, nmB ((x, b), 1)), 1)), 1))) else (none, nmB ((x, nmB ((x, nmB ((x, b), 1)), 1)), 1)) else (none, nmB ((x, nmB ((x, b), 1)), 1)) else (none, nmB ((x, b), 1)) else (none, b)) else if k = 12 then (if nmO ((x, b), 1) = true then if nmO ((x, nmB ((x, b), 1)), 2) = true then (some (k, 0, 0, 0, 0, nmV ((x, b), 1), nmV ((x, nmB ((x, b), 1)), 2), [], (true, [])), nmB ((x, nmB ((x, b), 1)), 2)) else (none, nmB ((x, b), 1)) else (none, b)) else if k = 14 then (if nmO ((x, b), 1) = true then if nmO ((x, nmB ((x, b), 1)), 1) = true then if 20 < nmV ((x, nmB ((x, b), 1)), 1) then (none, nmB ((x, nmB ((x, b), 1)), 1)) else if gnO ((x, nmB ((x, nmB ((x, b), 1)), 1)), nmV ((x, nmB ((x, b), 1)), 1), 1) = true then (some (k, nmV ((x, b), 1), 0, 0, 0, 0, 0, [], (noI (gnL ((x, nmB ((x, nmB ((x, b), 1)), 1)), nmV ((x, nmB ((x, b), 1)), 1), 1)), gnL ((x, nmB ((x, nmB ((x, b), 1)), 1)), nmV ((x, nmB ((x, b), 1)), 1), 1))), gnB ((x, nmB ((x, nmB ((x, b), 1)), 1)), nmV ((x, nmB ((x, b), 1)), 1), 1)) else (none, gnB ((x, nmB ((x, nmB ((x, b), 1)), 1)), nmV ((x, nmB ((x, b), 1)), 1), 1)) else (none, nmB ((x, b), 1)) else (none, b)) else (if nmO ((x, b), 1) = true then (some (k, 0, 0, 0, 0, nmV ((x, b), 1), 0, [], (true, [])), nmB ((x, b), 1)) else (none, b))
def stO (d : RdD) : Bool := (stE d).1.isSome
def stS (d : RdD) : Step_T := (stE d).1.getD (0, 0, 0, 0, 0, 0, 0, [], (true, []))
def stB (d : RdD) : List Int := (stE d).2
def stPre (d : RdD) : Prop := byt d.1.2
noncomputable def stR (d : RdD) : Alt Ret := .ite (stO d) (.leaf { pan := false, res := .agg (Tu.mk Step_tfs (stS d)), out := [boxB [.slc d.1.1 ((stB d).map (mkV false [.fi .u8]))]], new := [] }) (.leaf { pan := true, res := .iface 93 (.agg []), out := [boxB [.slc d.1.1 ((stB d).map (mkV false [.fi .u8]))]], new := [] })
noncomputable def stP : PK := PK.of nmA stPre stR
theorem stOk (d : RdD) (h : stPre d) : CallOk Try.prog 33 (nmA d).1 (nmA d).2 (stR d).val := by
  obtain ⟨⟨x, b⟩, k⟩ := d
  have hb : byt b := h
  refine CallOk.unit (fnOk Sp3_ok 21) rfl fLoops_none (o := false) (by show 1 ≤ 1000; decide) ((stp_w x b k).trans ?_)
  unfold stp_r
  refine bK_iq (Q := fun z => z = _) (fun c0 => ?_) (fun c0 => ?_)
  · skip
    refine oK_pkq (Q := fun z => z = _) nmA_inj ((x, b), 2) ⟨⟨show (1 : Int) ≤ 2 by decide, show (2 : Int) ≤ 7 by decide⟩, hb⟩ ?_
    dsimp only
    cases h0 : nmO ((x, b), 2) with
    | false =>
      refine bK_fq (Q := fun z => z = _) rfl ?_
      have e : stE ((x, b), k) = (none, b) := by unfold stE; dsimp only; rw [if_pos c0, if_neg (show ¬ nmO ((x, b), 2) = true by rw [h0]; decide)]
      unfold stR stO stS stB
      rw [e]
      rfl
    | true =>
      refine bK_tq (Q := fun z => z = _) rfl ?_
      refine oK_pkq (Q := fun z => z = _) gnA_inj ((x, nmB ((x, b), 2)), 4, 2) ⟨⟨show (0 : Int) ≤ 4 by decide, show (4 : Int) ≤ 1000 by decide⟩, ⟨show (1 : Int) ≤ 2 by decide, show (2 : Int) ≤ 7 by decide⟩, (byt_drop hb _)⟩ ?_
      dsimp only
      cases h1 : gnO ((x, nmB ((x, b), 2)), 4, 2) with
      | false =>
        refine bK_fq (Q := fun z => z = _) rfl ?_
        have e : stE ((x, b), k) = (none, gnB ((x, nmB ((x, b), 2)), 4, 2)) := by unfold stE; dsimp only; rw [if_pos c0, if_pos h0, if_neg (show ¬ gnO ((x, nmB ((x, b), 2)), 4, 2) = true by rw [h1]; decide)]
        unfold stR stO stS stB
        rw [e]
        rfl
      | true =>
        refine bK_tq (Q := fun z => z = _) rfl ?_
        have e : stE ((x, b), k) = (some (k, 0, nmV ((x, b), 2), 0, 0, 0, 0, [], (noI (gnL ((x, nmB ((x, b), 2)), 4, 2)), gnL ((x, nmB ((x, b), 2)), 4, 2))), gnB ((x, nmB ((x, b), 2)), 4, 2)) := by unfold stE; dsimp only; rw [if_pos c0, if_pos h0, if_pos h1]
        unfold stR stO stS stB
        rw [e]
        rfl
  · skip
    refine bK_iq (Q := fun z => z = _) (fun c1 => ?_) (fun c1 => ?_)
    · skip
      refine oK_pkq (Q := fun z => z = _) nmA_inj ((x, b), 1) ⟨⟨show (1 : Int) ≤ 1 by decide, show (1 : Int) ≤ 7 by decide⟩, hb⟩ ?_
      dsimp only
      cases h0 : nmO ((x, b), 1) with
      | false =>
        refine bK_fq (Q := fun z => z = _) rfl ?_
        have e : stE ((x, b), k) = (none, b) := by unfold stE; dsimp only; rw [if_neg c0, if_pos c1, if_neg (show ¬ nmO ((x, b), 1) = true by rw [h0]; decide)]
        unfold stR stO stS stB
        rw [e]
        rfl
      | true =>
        refine bK_tq (Q := fun z => z = _) rfl ?_
        have e : stE ((x, b), k) = (some (k, nmV ((x, b), 1), 0, 0, 0, 0, 0, [], (true, [])), nmB ((x, b), 1)) := by unfold stE; dsimp only; rw [if_neg c0, if_pos c1, if_pos h0]
        unfold stR stO stS stB
        rw [e]
        rfl
    · skip
      refine bK_iq (Q := fun z => z = _) (fun c2 => ?_) (fun c2 => ?_)
      · skip
        refine oK_pkq (Q := fun z => z = _) nmA_inj ((x, b), 1) ⟨⟨show (1 : Int) ≤ 1 by decide, show (1 : Int) ≤ 7 by decide⟩, hb⟩ ?_
        dsimp only
        cases h0 : nmO ((x, b), 1) with
        | false =>
          refine bK_fq (Q := fun z => z = _) rfl ?_
          have e : stE ((x, b), k) = (none, b) := by unfold stE; dsimp only; rw [if_neg c0, if_neg c1, if_pos c2, if_neg (show ¬ nmO ((x, b), 1) = true by rw [h0]; decide)]
          unfold stR stO stS stB
          rw [e]
          rfl
        | true =>
          refine bK_tq (Q := fun z => z = _) rfl ?_
          refine oK_pkq (Q := fun z => z = _) txA_inj (x, nmB ((x, b), 1)) (byt_drop hb _) ?_
          dsimp only
          cases h1 : txO (x, nmB ((x, b), 1)) with
          | false =>
            refine bK_fq (Q := fun z => z = _) rfl ?_
            have e : stE ((x, b), k) = (none, nmB ((x, b), 1)) := by unfold stE; dsimp only; rw [if_neg c0, if_neg c1, if_pos c2, if_pos h0, if_neg (show ¬ txO (x, nmB ((x, b), 1)) = true by rw [h1]; decide)]
            unfold stR stO stS stB
            rw [e]
            rfl
          | true =>
            refine bK_tq (Q := fun z => z = _) rfl ?_
            have e : stE ((x, b), k) = (some (k, nmV ((x, b), 1), 0, 0, 0, 0, 0, txV (x, nmB ((x, b), 1)), (true, [])), txB (x, nmB ((x, b), 1))) := by unfold stE; dsimp only; rw [if_neg c0, if_neg c1, if_pos c2, if_pos h0, if_pos h1]
            unfold stR stO stS stB
            rw [e]
            rfl
      · skip
        refine bK_iq (Q := fun z => z = _) (fun c3 => ?_) (fun c3 => ?_)
        · skip
          refine oK_pkq (Q := fun z => z = _) nmA_inj ((x, b), 1) ⟨⟨show (1 : Int) ≤ 1 by decide, show (1 : Int) ≤ 7 by decide⟩, hb⟩ ?_
          dsimp only
          cases h0 : nmO ((x, b), 1) with
          | false =>
            refine bK_fq (Q := fun z => z = _) rfl ?_
            have e : stE ((x, b), k) = (none, b) := by unfold stE; dsimp only; rw [if_neg c0, if_neg c1, if_neg c2, if_pos c3, if_neg (show ¬ nmO ((x, b), 1) = true by rw [h0]; decide)]
            unfold stR stO stS stB
            rw [e]
            rfl
          | true =>
            refine bK_tq (Q := fun z => z = _) rfl ?_
            refine oK_pkq (Q := fun z => z = _) nmA_inj ((x, nmB ((x, b), 1)), 1) ⟨⟨show (1 : Int) ≤ 1 by decide, show (1 : Int) ≤ 7 by decide⟩, (byt_drop hb _)⟩ ?_
            dsimp only
            cases h1 : nmO ((x, nmB ((x, b), 1)), 1) with
            | false =>
              refine bK_fq (Q := fun z => z = _) rfl ?_
              have e : stE ((x, b), k) = (none, nmB ((x, b), 1)) := by unfold stE; dsimp only; rw [if_neg c0, if_neg c1, if_neg c2, if_pos c3, if_pos h0, if_neg (show ¬ nmO ((x, nmB ((x, b), 1)), 1) = true by rw [h1]; decide)]
              unfold stR stO stS stB
              rw [e]
              rfl
            | true =>
              refine bK_tq (Q := fun z => z = _) rfl ?_
              have e : stE ((x, b), k) = (some (k, nmV ((x, b), 1), 0, nmV ((x, nmB ((x, b), 1)), 1), 0, 0, 0, [], (true, [])), nmB ((x, nmB ((x, b), 1)), 1)) := by unfold stE; dsimp only; rw [if_neg c0, if_neg c1, if_neg c2, if_pos c3, if_pos h0, if_pos h1]
              unfold stR stO stS stB
              rw [e]
              rfl
        · skip
          refine bK_iq (Q := fun z => z = _) (fun c4 => ?_) (fun c4 => ?_)
          · skip
            refine oK_pkq (Q := fun z => z = _) nmA_inj ((x, b), 1) ⟨⟨show (1 : Int) ≤ 1 by decide, show (1 : Int) ≤ 7 by decide⟩, hb⟩ ?_
            dsimp only
            cases h0 : nmO ((x, b), 1) with
            | false =>
              refine bK_fq (Q := fun z => z = _) rfl ?_
              have e : stE ((x, b), k) = (none, b) := by unfold stE; dsimp only; rw [if_neg c0, if_neg c1, if_neg c2, if_neg c3, if_pos c4, if_neg (show ¬ nmO ((x, b), 1) = true by rw [h0]; decide)]
              unfold stR stO stS stB
              rw [e]
              rfl
            | true =>
              refine bK_tq (Q := fun z => z = _) rfl ?_
              refine oK_pkq (Q := fun z => z = _) nmA_inj ((x, nmB ((x, b), 1)), 1) ⟨⟨show (1 : Int) ≤ 1 by decide, show (1 : Int) ≤ 7 by decide⟩, (byt_drop hb _)⟩ ?_
              dsimp only
              cases h1 : nmO ((x, nmB ((x, b), 1)), 1) with
              | false =>
                refine bK_fq (Q := fun z => z = _) rfl ?_
                have e : stE ((x, b), k) = (none, nmB ((x, b), 1)) := by unfold stE; dsimp only; rw [if_neg c0, if_neg c1, if_neg c2, if_neg c3, if_pos c4, if_pos h0, if_neg (show ¬ nmO ((x, nmB ((x, b), 1)), 1) = true by rw [h1]; decide)]
                unfold stR stO stS stB
                rw [e]
                rfl
              | true =>
                refine bK_tq (Q := fun z => z = _) rfl ?_
                have e : stE ((x, b), k) = (some (k, nmV ((x, b), 1), 0, nmV ((x, nmB ((x, b), 1)), 1), 0, 0, 0, [], (true, [])), nmB ((x, nmB ((x, b), 1)), 1)) := by unfold stE; dsimp only; rw [if_neg c0, if_neg c1, if_neg c2, if_neg c3, if_pos c4, if_pos h0, if_pos h1]
                unfold stR stO stS stB
                rw [e]
                rfl
          · skip
            refine bK_iq (Q := fun z => z = _) (fun c5 => ?_) (fun c5 => ?_)
            · skip
              refine oK_pkq (Q := fun z => z = _) nmA_inj ((x, b), 1) ⟨⟨show (1 : Int) ≤ 1 by decide, show (1 : Int) ≤ 7 by decide⟩, hb⟩ ?_
              dsimp only
              cases h0 : nmO ((x, b), 1) with
              | false =>
                refine bK_fq (Q := fun z => z = _) rfl ?_
                have e : stE ((x, b), k) = (none, b) := by unfold stE; dsimp only; rw [if_neg c0, if_neg c1, if_neg c2, if_neg c3, if_neg c4, if_pos c5, if_neg (show ¬ nmO ((x, b), 1) = true by rw [h0]; decide)]
                unfold stR stO stS stB
                rw [e]
                rfl
              | true =>
                refine bK_tq (Q := fun z => z = _) rfl ?_
                refine oK_pkq (Q := fun z => z = _) nmA_inj ((x, nmB ((x, b), 1)), 1) ⟨⟨show (1 : Int) ≤ 1 by decide, show (1 : Int) ≤ 7 by decide⟩, (byt_drop hb _)⟩ ?_
                dsimp only
                cases h1 : nmO ((x, nmB ((x, b), 1)), 1) with
                | false =>
                  refine bK_fq (Q := fun z => z = _) rfl ?_
                  have e : stE ((x, b), k) = (none, nmB ((x, b), 1)) := by unfold stE; dsimp only; rw [if_neg c0, if_neg c1, if_neg c2, if_neg c3, if_neg c4, if_pos c5, if_pos h0, if_neg (show ¬ nmO ((x, nmB ((x, b), 1)), 1) = true by rw [h1]; decide)]
                  unfold stR stO stS stB
                  rw [e]
                  rfl
                | true =>
                  refine bK_tq (Q := fun z => z = _) rfl ?_
                  have e : stE ((x, b), k) = (some (k, nmV ((x, b), 1), 0, nmV ((x, nmB ((x, b), 1)), 1), 0, 0, 0, [], (true, [])), nmB ((x, nmB ((x, b), 1)), 1)) := by unfold stE; dsimp only; rw [if_neg c0, if_neg c1, if_neg c2, if_neg c3, if_neg c4, if_pos c5, if_pos h0, if_pos h1]
                  unfold stR stO stS stB
                  rw [e]
                  rfl
            · skip
              refine bK_iq (Q := fun z => z = _) (fun c6 => ?_) (fun c6 => ?_)
              · skip
                refine oK_pkq (Q := fun z => z = _) nmA_inj ((x, b), 1) ⟨⟨show (1 : Int) ≤ 1 by decide, show (1 : Int) ≤ 7 by decide⟩, hb⟩ ?_
                dsimp only
                cases h0 : nmO ((x, b), 1) with
                | false =>
                  refine bK_fq (Q := fun z => z = _) rfl ?_
                  have e : stE ((x, b), k) = (none, b) := by unfold stE; dsimp only; rw [if_neg c0, if_neg c1, if_neg c2, if_neg c3, if_neg c4, if_neg c5, if_pos c6, if_neg (show ¬ nmO ((x, b), 1) = true by rw [h0]; decide)]
                  unfold stR stO stS stB
                  rw [e]
                  rfl
                | true =>
                  refine bK_tq (Q := fun z => z = _) rfl ?_
                  refine oK_pkq (Q := fun z => z = _) nmA_inj ((x, nmB ((x, b), 1)), 1) ⟨⟨show (1 : Int) ≤ 1 by decide, show (1 : Int) ≤ 7 by decide⟩, (byt_drop hb _)⟩ ?_
                  dsimp only
                  cases h1 : nmO ((x, nmB ((x, b), 1)), 1) with
                  | false =>
                    refine bK_fq (Q := fun z => z = _) rfl ?_
                    have e : stE ((x, b), k) = (none, nmB ((x, b), 1)) := by unfold stE; dsimp only; rw [if_neg c0, if_neg c1, if_neg c2, if_neg c3, if_neg c4, if_neg c5, if_pos c6, if_pos h0, if_neg (show ¬ nmO ((x, nmB ((x, b), 1)), 1) = true by rw [h1]; decide)]
                    unfold stR stO stS stB
                    rw [e]
                    rfl
                  | true =>
                    refine bK_tq (Q := fun z => z = _) rfl ?_
                    have e : stE ((x, b), k) = (some (k, nmV ((x, b), 1), 0, nmV ((x, nmB ((x, b), 1)), 1), 0, 0, 0, [], (true, [])), nmB ((x, nmB ((x, b), 1)), 1)) := by unfold stE; dsimp only; rw [if_neg c0, if_neg c1, if_neg c2, if_neg c3, if_neg c4, if_neg c5, if_pos c6, if_pos h0, if_pos h1]
                    unfold stR stO stS stB
                    rw [e]
                    rfl
              · skip
                refine bK_iq (Q := fun z => z = _) (fun c7 => ?_) (fun c7 => ?_)
                · skip
                  refine oK_pkq (Q := fun z => z = _) nmA_inj ((x, b), 1) ⟨⟨show (1 : Int) ≤ 1 by decide, show (1 : Int) ≤ 7 by decide⟩, hb⟩ ?_
                  dsimp only
                  cases h0 : nmO ((x, b), 1) with
                  | false =>
                    refine bK_fq (Q := fun z => z = _) rfl ?_
                    have e : stE ((x, b), k) = (none, b) := by unfold stE; dsimp only; rw [if_neg c0, if_neg c1, if_neg c2, if_neg c3, if_neg c4, if_neg c5, if_neg c6, if_pos c7, if_neg (show ¬ nmO ((x, b), 1) = true by rw [h0]; decide)]
                    unfold stR stO stS stB
                    rw [e]
                    rfl
                  | true =>
                    refine bK_tq (Q := fun z => z = _) rfl ?_
                    refine oK_pkq (Q := fun z => z = _) nmA_inj ((x, nmB ((x, b), 1)), 1) ⟨⟨show (1 : Int) ≤ 1 by decide, show (1 : Int) ≤ 7 by decide⟩, (byt_drop hb _)⟩ ?_
                    dsimp only
                    cases h1 : nmO ((x, nmB ((x, b), 1)), 1) with
                    | false =>
                      refine bK_fq (Q := fun z => z = _) rfl ?_
                      have e : stE ((x, b), k) = (none, nmB ((x, b), 1)) := by unfold stE; dsimp only; rw [if_neg c0, if_neg c1, if_neg c2, if_neg c3, if_neg c4, if_neg c5, if_neg c6, if_pos c7, if_pos h0, if_neg (show ¬ nmO ((x, nmB ((x, b), 1)), 1) = true by rw [h1]; decide)]
                      unfold stR stO stS stB
                      rw [e]
                      rfl
                    | true =>
                      refine bK_tq (Q := fun z => z = _) rfl ?_
                      refine oK_pkq (Q := fun z => z = _) nmA_inj ((x, nmB ((x, nmB ((x, b), 1)), 1)), 1) ⟨⟨show (1 : Int) ≤ 1 by decide, show (1 : Int) ≤ 7 by decide⟩, (byt_drop (byt_drop hb _) _)⟩ ?_
                      dsimp only
                      cases h2 : nmO ((x, nmB ((x, nmB ((x, b), 1)), 1)), 1) with
                      | false =>
                        refine bK_fq (Q := fun z => z = _) rfl ?_
                        have e : stE ((x, b), k) = (none, nmB ((x, nmB ((x, b), 1)), 1)) := by unfold stE; dsimp only; rw [if_neg c0, if_neg c1, if_neg c2, if_neg c3, if_neg c4, if_neg c5, if_neg c6, if_pos c7, if_pos h0, if_pos h1, if_neg (show ¬ nmO ((x, nmB ((x, nmB ((x, b), 1)), 1)), 1) = true by rw [h2]; decide)]
                        unfold stR stO stS stB
                        rw [e]
                        rfl
                      | true =>
                        refine bK_tq (Q := fun z => z = _) rfl ?_
                        refine oK_pkq (Q := fun z => z = _) txA_inj (x, nmB ((x, nmB ((x, nmB ((x, b), 1)), 1)), 1)) (byt_drop (byt_drop (byt_drop hb _) _) _) ?_
                        dsimp only
                        cases h3 : txO (x, nmB ((x, nmB ((x, nmB ((x, b), 1)), 1)), 1)) with
                        | false =>
                          refine bK_fq (Q := fun z => z = _) rfl ?_
                          have e : stE ((x, b), k) = (none, nmB ((x, nmB ((x, nmB ((x, b), 1)), 1)), 1)) := by unfold stE; dsimp only; rw [if_neg c0, if_neg c1, if_neg c2, if_neg c3, if_neg c4, if_neg c5, if_neg c6, if_pos c7, if_pos h0, if_pos h1, if_pos h2, if_neg (show ¬ txO (x, nmB ((x, nmB ((x, nmB ((x, b), 1)), 1)), 1)) = true by rw [h3]; decide)]
                          unfold stR stO stS stB
                          rw [e]
                          rfl
                        | true =>
                          refine bK_tq (Q := fun z => z = _) rfl ?_
                          have e : stE ((x, b), k) = (some (k, nmV ((x, b), 1), 0, nmV ((x, nmB ((x, b), 1)), 1), nmV ((x, nmB ((x, nmB ((x, b), 1)), 1)), 1), 0, 0, txV (x, nmB ((x, nmB ((x, nmB ((x, b), 1)), 1)), 1)), (true, [])), txB (x, nmB ((x, nmB ((x, nmB ((x, b), 1)), 1)), 1))) := by unfold stE; dsimp only; rw [if_neg c0, if_neg c1, if_neg c2, if_neg c3, if_neg c4, if_neg c5, if_neg c6, if_pos c7, if_pos h0, if_pos h1, if_pos h2, if_pos h3]
                          unfold stR stO stS stB
                          rw [e]
                          rfl
                · skip
                  refine bK_iq (Q := fun z => z = _) (fun c8 => ?_) (fun c8 => ?_)
                  · skip
                    refine oK_pkq (Q := fun z => z = _) nmA_inj ((x, b), 1) ⟨⟨show (1 : Int) ≤ 1 by decide, show (1 : Int) ≤ 7 by decide⟩, hb⟩ ?_
                    dsimp only
                    cases h0 : nmO ((x, b), 1) with
                    | false =>
                      refine bK_fq (Q := fun z => z = _) rfl ?_
                      have e : stE ((x, b), k) = (none, b) := by unfold stE; dsimp only; rw [if_neg c0, if_neg c1, if_neg c2, if_neg c3, if_neg c4, if_neg c5, if_neg c6, if_neg c7, if_pos c8, if_neg (show ¬ nmO ((x, b), 1) = true by rw [h0]; decide)]
                      unfold stR stO stS stB
                      rw [e]
                      rfl
                    | true =>
                      refine bK_tq (Q := fun z => z = _) rfl ?_
                      refine oK_pkq (Q := fun z => z = _) nmA_inj ((x, nmB ((x, b), 1)), 2) ⟨⟨show (1 : Int) ≤ 2 by decide, show (2 : Int) ≤ 7 by decide⟩, (byt_drop hb _)⟩ ?_
                      dsimp only
                      cases h1 : nmO ((x, nmB ((x, b), 1)), 2) with
                      | false =>
                        refine bK_fq (Q := fun z => z = _) rfl ?_
                        have e : stE ((x, b), k) = (none, nmB ((x, b), 1)) := by unfold stE; dsimp only; rw [if_neg c0, if_neg c1, if_neg c2, if_neg c3, if_neg c4, if_neg c5, if_neg c6, if_neg c7, if_pos c8, if_pos h0, if_neg (show ¬ nmO ((x, nmB ((x, b), 1)), 2) = true by rw [h1]; decide)]
                        unfold stR stO stS stB
                        rw [e]
                        rfl
                      | true =>
                        refine bK_tq (Q := fun z => z = _) rfl ?_
                        have e : stE ((x, b), k) = (some (k, 0, 0, 0, 0, nmV ((x, b), 1), nmV ((x, nmB ((x, b), 1)), 2), [], (true, [])), nmB ((x, nmB ((x, b), 1)), 2)) := by unfold stE; dsimp only; rw [if_neg c0, if_neg c1, if_neg c2, if_neg c3, if_neg c4, if_neg c5, if_neg c6, if_neg c7, if_pos c8, if_pos h0, if_pos h1]
                        unfold stR stO stS stB
                        rw [e]
                        rfl
                  · skip
                    refine bK_iq (Q := fun z => z = _) (fun c9 => ?_) (fun c9 => ?_)
                    · skip
                      refine oK_pkq (Q := fun z => z = _) nmA_inj ((x, b), 1) ⟨⟨show (1 : Int) ≤ 1 by decide, show (1 : Int) ≤ 7 by decide⟩, hb⟩ ?_
                      dsimp only
                      cases h0 : nmO ((x, b), 1) with
                      | false =>
                        refine bK_fq (Q := fun z => z = _) rfl ?_
                        have e : stE ((x, b), k) = (none, b) := by unfold stE; dsimp only; rw [if_neg c0, if_neg c1, if_neg c2, if_neg c3, if_neg c4, if_neg c5, if_neg c6, if_neg c7, if_neg c8, if_pos c9, if_neg (show ¬ nmO ((x, b), 1) = true by rw [h0]; decide)]
                        unfold stR stO stS stB
                        rw [e]
                        rfl
                      | true =>
                        refine bK_tq (Q := fun z => z = _) rfl ?_
                        refine oK_pkq (Q := fun z => z = _) nmA_inj ((x, nmB ((x, b), 1)), 1) ⟨⟨show (1 : Int) ≤ 1 by decide, show (1 : Int) ≤ 7 by decide⟩, (byt_drop hb _)⟩ ?_
                        dsimp only
                        cases h1 : nmO ((x, nmB ((x, b), 1)), 1) with
                        | false =>
                          refine bK_fq (Q := fun z => z = _) rfl ?_
                          have e : stE ((x, b), k) = (none, nmB ((x, b), 1)) := by unfold stE; dsimp only; rw [if_neg c0, if_neg c1, if_neg c2, if_neg c3, if_neg c4, if_neg c5, if_neg c6, if_neg c7, if_neg c8, if_pos c9, if_pos h0, if_neg (show ¬ nmO ((x, nmB ((x, b), 1)), 1) = true by rw [h1]; decide)]
                          unfold stR stO stS stB
                          rw [e]
                          rfl
                        | true =>
                          refine bK_tq (Q := fun z => z = _) rfl ?_
                          refine bK_iq (Q := fun z => z = _) (fun h2 => ?_) (fun h2 => ?_)
                          · skip
                            have e : stE ((x, b), k) = (none, nmB ((x, nmB ((x, b), 1)), 1)) := by unfold stE; dsimp only; rw [if_neg c0, if_neg c1, if_neg c2, if_neg c3, if_neg c4, if_neg c5, if_neg c6, if_neg c7, if_neg c8, if_pos c9, if_pos h0, if_pos h1, if_pos h2]
                            unfold stR stO stS stB
                            rw [e]
                            rfl
                          · skip
                            refine oK_pkq (Q := fun z => z = _) gnA_inj ((x, nmB ((x, nmB ((x, b), 1)), 1)), nmV ((x, nmB ((x, b), 1)), 1), 1) ⟨⟨nmV_nn _ (.inr trivial) (byt_drop hb _), by show nmV ((x, nmB ((x, b), 1)), 1) ≤ 1000; omega⟩, ⟨show (1 : Int) ≤ 1 by decide, show (1 : Int) ≤ 7 by decide⟩, (byt_drop (byt_drop hb _) _)⟩ ?_
                            dsimp only
                            cases h3 : gnO ((x, nmB ((x, nmB ((x, b), 1)), 1)), nmV ((x, nmB ((x, b), 1)), 1), 1) with
                            | false =>
                              refine bK_fq (Q := fun z => z = _) rfl ?_
                              have e : stE ((x, b), k) = (none, gnB ((x, nmB ((x, nmB ((x, b), 1)), 1)), nmV ((x, nmB ((x, b), 1)), 1), 1)) := by unfold stE; dsimp only; rw [if_neg c0, if_neg c1, if_neg c2, if_neg c3, if_neg c4, if_neg c5, if_neg c6, if_neg c7, if_neg c8, if_pos c9, if_pos h0, if_pos h1, if_neg h2, if_neg (show ¬ gnO ((x, nmB ((x, nmB ((x, b), 1)), 1)), nmV ((x, nmB ((x, b), 1)), 1), 1) = true by rw [h3]; decide)]
                              unfold stR stO stS stB
                              rw [e]
                              rfl
                            | true =>
                              refine bK_tq (Q := fun z => z = _) rfl ?_
                              have e : stE ((x, b), k) = (some (k, nmV ((x, b), 1), 0, 0, 0, 0, 0, [], (noI (gnL ((x, nmB ((x, nmB ((x, b), 1)), 1)), nmV ((x, nmB ((x, b), 1)), 1), 1)), gnL ((x, nmB ((x, nmB ((x, b), 1)), 1)), nmV ((x, nmB ((x, b), 1)), 1), 1))), gnB ((x, nmB ((x, nmB ((x, b), 1)), 1)), nmV ((x, nmB ((x, b), 1)), 1), 1)) := by unfold stE; dsimp only; rw [if_neg c0, if_neg c1, if_neg c2, if_neg c3, if_neg c4, if_neg c5, if_neg c6, if_neg c7, if_neg c8, if_pos c9, if_pos h0, if_pos h1, if_neg h2, if_pos h3]
                              unfold stR stO stS stB
                              rw [e]
                              rfl
                    · skip
                      refine oK_pkq (Q := fun z => z = _) nmA_inj ((x, b), 1) ⟨⟨show (1 : Int) ≤ 1 by decide, show (1 : Int) ≤ 7 by decide⟩, hb⟩ ?_
                      dsimp only
                      cases h0 : nmO ((x, b), 1) with
                      | false =>
                        refine bK_fq (Q := fun z => z = _) rfl ?_
                        have e : stE ((x, b), k) = (none, b) := by unfold stE; dsimp only; rw [if_neg c0, if_neg c1, if_neg c2, if_neg c3, if_neg c4, if_neg c5, if_neg c6, if_neg c7, if_neg c8, if_neg c9, if_neg (show ¬ nmO ((x, b), 1) = true by rw [h0]; decide)]
                        unfold stR stO stS stB
                        rw [e]
                        rfl
                      | true =>
                        refine bK_tq (Q := fun z => z = _) rfl ?_
                        have e : stE ((x, b), k) = (some (k, 0, 0, 0, 0, nmV ((x, b), 1), 0, [], (true, [])), nmB ((x, b), 1)) := by unfold stE; dsimp only; rw [if_neg c0, if_neg c1, if_neg c2, if_neg c3, if_neg c4, if_neg c5, if_neg c6, if_neg c7, if_neg c8, if_neg c9, if_pos h0]
                        unfold stR stO stS stB
                        rw [e]
                        rfl

end Go.Proofs.Ytmjgiplgghmapaa
