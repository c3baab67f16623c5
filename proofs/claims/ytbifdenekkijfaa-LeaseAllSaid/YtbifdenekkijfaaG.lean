/- A part of the proof: contracts of functions. -/
import Derived.Test.YtbifdenekkijfaaE
import Derived.Test.YtbifdenekkijfaaAbAny

set_option linter.unusedVariables false
set_option linter.unusedSimpArgs false
set_option maxRecDepth 100000
namespace Go.Proofs.Ytbifdenekkijfaa
open Go Go.Ab
theorem hold_prune {l : List Lease_T} (h : Srt l) {a b : Int} (hab : a ≤ b) (c f : Int) : holdQ (pruneQ l a) b c f = holdQ l b c f := by
  have hs : Srt (pruneQ l a) := List.Pairwise.filter _ h
  have hm : ∀ w, w ∈ pruneQ l a ↔ w ∈ l ∧ a < w.2.2.2 := fun w => by
    show w ∈ l.filter _ ↔ _
    rw [List.mem_filter]
    refine and_congr_right fun _ => ?_
    simp
  by_cases hx : ∃ w ∈ l, keyE w c f
  · obtain ⟨w, hw, hk⟩ := hx
    rw [(hold_mem h hw hk b).2.2]
    by_cases hp : a < w.2.2.2
    · exact (hold_mem hs ((hm w).2 ⟨hw, hp⟩) hk b).2.2
    · rw [(hold_none (fun v hv hkv => ?_) b).2]
      · unfold valF; rw [if_pos (by omega)]
      · have hv' := (hm v).1 hv
        have := srt_uniq h hv'.1 hw ⟨hkv.1.trans hk.1.symm, hkv.2.trans hk.2.symm⟩
        rw [this] at hv'
        exact hp hv'.2
  · have hn : ∀ w ∈ l, ¬ keyE w c f := fun w hw hk => hx ⟨w, hw, hk⟩
    rw [(hold_none hn b).2, (hold_none (fun w hw => hn w ((hm w).1 hw).1) b).2]
theorem clash_prune {l : List Lease_T} (h : Srt l) {a b : Int} (hab : a ≤ b) (c f m : Int) : csF (pruneQ l a) b c f m = csF l b c f m := by
  show ((l.filter _).filter (csK (pruneQ l a) b c f m)).map csg = (l.filter (csK l b c f m)).map csg
  rw [List.filter_filter]
  congr 1
  refine List.filter_congr fun w hw => ?_
  have e : csK (pruneQ l a) b c f m w = csK l b c f m w := by
    unfold csK
    rw [hold_prune h hab]
  rw [e]
  cases hk : csK l b c f m w with
  | false => rfl
  | true =>
    rw [Bool.true_and]
    unfold csK at hk
    simp only [Bool.and_eq_true, Bool.not_eq_true', decide_eq_true_eq, decide_eq_false_iff_not] at hk
    have := (hold_mem h hw ⟨rfl, hk.1.1⟩ b).2.2
    rw [this] at hk
    unfold valF at hk
    by_cases h1 : w.2.2.2 ≤ b
    · rw [if_pos h1] at hk; exact absurd rfl hk.2.1
    · rw [decide_eq_false (by omega)]; rfl
theorem prune_prune (l : List Lease_T) {a b : Int} (hab : a ≤ b) : pruneQ (pruneQ l a) b = pruneQ l b := by
  show (l.filter _).filter _ = l.filter _
  rw [List.filter_filter]
  refine List.filter_congr fun w _ => ?_
  by_cases h1 : w.2.2.2 ≤ b
  · rw [decide_eq_true h1]; rfl
  · rw [decide_eq_false h1, decide_eq_false (by omega)]; rfl
theorem sl_refl (l : List Lease_T) : slQ l l = true := decide_eq_true rfl
theorem sa_refl (l : List Int) : saQ l l = true := decide_eq_true rfl
theorem wf8 {l : List Int} (h : ∀ d ∈ l, Tu.wf [.fi .u8] d) : ∀ v ∈ l, 0 ≤ v ∧ v < 256 := fun v hv => by
  have : (0 : Int) ≤ v ∧ v ≤ 255 := h v hv
  omega
theorem leaseOver_yes (picks_x : Bool) (picks : List Int) (now : Int) (later : Int) (client : Int) (f : Int) (h : Tu.wf leaseOver_fs ((picks_x, picks), now, later, client, f)) : Yes (leaseOver_r picks_x picks now later client f) := by
  have hp := wf8 h.1.2
  have h1 : (0 : Int) ≤ now ∧ now ≤ 255 := h.2.1
  have h2 : (0 : Int) ≤ later ∧ later ≤ 255 := h.2.2.1
  unfold leaseOver_r
  refine oK_fsq (Q := Yes) begunS () trivial ?_
  refine bK_iq (Q := Yes) (fun _ => yes_leaf) (fun c1 => ?_)
  rw [List.length_map] at c1
  have hpk : pkOk ((picks_x, picks), 0) := ⟨by simp, by simp, by show picks.length ≤ 2 ^ 62; omega, hp⟩
  refine oK_msq (Q := Yes) leasS ((picks_x, picks), (0 : Int)) () hpk ?_
  dsimp only
  have b8 := numF_lt hpk (m := 8) (by omega)
  obtain ⟨hi, hl⟩ := lea_inv (numF ((picks_x, picks), 0) 8).2.toNat (numF ((picks_x, picks), 0) 8).1 [] (numF_ok hpk) LInv.nil
  have el : leaL [] (numF ((picks_x, picks), 0) 8).1 (numF ((picks_x, picks), 0) 8).2 = (leaN (numF ((picks_x, picks), 0) 8).2.toNat (numF ((picks_x, picks), 0) 8).1 []).2 := rfl
  rw [← el] at hi hl
  generalize leaL [] (numF ((picks_x, picks), 0) 8).1 (numF ((picks_x, picks), 0) 8).2 = l at hi hl
  generalize leaX true (numF ((picks_x, picks), 0) 8).2 = lx
  have hll : l.length ≤ 100000 := by simp only [List.length_nil] at hl; omega
  have w1 : IntKind.i64.wrap now = now := w64 (by omega) (by omega)
  have w2 : IntKind.i64.wrap later = later := w64 (by omega) (by omega)
  have w3 : IntKind.i64.wrap (now + later) = now + later := w64 (by omega) (by omega)
  rw [w1, w2, w3]
  have hab : now ≤ now + later := by omega
  have hx : (pruneQ l now).length ≤ l.length := List.length_filter_le _ _
  have hxl : (pruneQ l now).length ≤ 100000 := by omega
  generalize IntKind.i64.wrap (1 + IntKind.i64.wrap (client.tmod 3)) = c
  generalize IntKind.i64.wrap (1 + IntKind.i64.wrap (f.tmod 3)) = g
  have sl : ∀ m : Int, (csF l (now + later) c g m).length ≤ 100000 := fun m => by
    show ((l.filter _).map _).length ≤ 100000
    rw [List.length_map]
    exact Nat.le_trans (List.length_filter_le _ _) hll
  refine oK_fsq (Q := Yes) pruneS ((lx, l), now) hll ?_
  refine oK_fsq (Q := Yes) clashS ((l.isEmpty, pruneQ l now), now + later, c, g, (1 : Int)) hxl ?_
  refine oK_fsq (Q := Yes) clashS ((lx, l), now + later, c, g, (1 : Int)) hll ?_
  dsimp only
  rw [clash_prune hi.srt hab]
  refine oK_fsq (Q := Yes) saS ((_, csF l (now + later) c g 1), (_, csF l (now + later) c g 1)) (sl 1) ?_
  refine bK_fq (Q := Yes) (by rw [sa_refl]; rfl) ?_
  refine oK_fsq (Q := Yes) clashS ((l.isEmpty, pruneQ l now), now + later, c, g, (2 : Int)) hxl ?_
  refine oK_fsq (Q := Yes) clashS ((lx, l), now + later, c, g, (2 : Int)) hll ?_
  dsimp only
  rw [clash_prune hi.srt hab]
  refine oK_fsq (Q := Yes) saS ((_, csF l (now + later) c g 2), (_, csF l (now + later) c g 2)) (sl 2) ?_
  refine bK_fq (Q := Yes) (by rw [sa_refl]; rfl) ?_
  refine oK_fsq (Q := Yes) holdsS ((l.isEmpty, pruneQ l now), now + later, c, g) hxl ?_
  refine oK_fsq (Q := Yes) holdsS ((lx, l), now + later, c, g) hll ?_
  refine bK_tq (Q := Yes) (decide_eq_true (hold_prune hi.srt hab c g)) ?_
  refine bK_tq (Q := Yes) (by simp only [List.length_map]; exact decide_eq_true (by omega)) ?_
  refine oK_fsq (Q := Yes) pruneS ((l.isEmpty, pruneQ l now), now + later) hxl ?_
  refine oK_fsq (Q := Yes) pruneS ((lx, l), now + later) hll ?_
  dsimp only
  rw [prune_prune l hab]
  have hpl : (pruneQ l (now + later)).length ≤ 100000 := Nat.le_trans (List.length_filter_le _ _) hll
  refine oK_fsq (Q := Yes) slS ((_, pruneQ l (now + later)), (_, pruneQ l (now + later))) hpl ?_
  refine bK_tq (Q := Yes) (sl_refl _) ?_
  refine oK_fsq (Q := Yes) mayS (l.isEmpty, pruneQ l now) hxl ?_
  exact yes_of (hi.filter _).may

end Go.Proofs.Ytbifdenekkijfaa
