/- A part of the proof: contracts of functions. -/
import Derived.Test.YtmjgiplgghmapaaW
import Derived.Test.YtmjgiplgghmapaaAbAny

set_option linter.unusedVariables false
set_option linter.unusedSimpArgs false
set_option maxRecDepth 100000
namespace Go.Proofs.Ytmjgiplgghmapaa
open Go Go.Ab
set_option maxHeartbeats 8000000
theorem pN1_f {v : Int} (h : 0 ≤ v ∧ v < 256) (r : List Int) : pN 1 (wB v :: r) = some (v, r) := by
  have e : wB v = v := by rw [wB_eq]; omega
  rw [e]
  unfold pN
  rw [if_pos (by simp)]
  show some (0 * 256 + v, r) = _
  rw [show 0 * 256 + v = v by omega]
theorem pN2_f {v : Int} (h : 0 ≤ v ∧ v < 65536) (r : List Int) : pN 2 (e2B v ++ r) = some (v, r) := by
  unfold pN e2B
  rw [if_pos (by simp)]
  show some ((0 * 256 + wB (v.fdiv 256)) * 256 + wB v, r) = _
  have e : (0 * 256 + wB (v.fdiv 256)) * 256 + wB v = v := by
    rw [wB_eq, wB_eq, Int.fdiv_eq_ediv_of_nonneg _ (by decide)]
    omega
  rw [e]
theorem pT_f {t : List UInt8} (h : t.length ≤ 255) (r : List Int) : pT (txE t ++ r) = some (t, r) := by
  have e : txE t = wB (t.length : Int) :: t.map (fun c => (c.toNat : Int)) := if_pos h
  have e2 : wB (t.length : Int) = (t.length : Int) := by rw [wB_eq]; omega
  rw [e, e2, List.cons_append]
  have hl : (t.map (fun c => (c.toNat : Int))).length = t.length := List.length_map _
  have h1 : 1 ≤ ((t.length : Int) :: (t.map (fun c => (c.toNat : Int)) ++ r)).length ∧ ((t.length : Int) :: (t.map (fun c => (c.toNat : Int)) ++ r)).getD 0 0 + 1 ≤ (((t.length : Int) :: (t.map (fun c => (c.toNat : Int)) ++ r)).length : Int) := by
    refine ⟨by simp, ?_⟩
    show (t.length : Int) + 1 ≤ _
    rw [List.length_cons, List.length_append, hl]
    omega
  unfold pT
  rw [ttL_yes h1, if_pos rfl]
  show some (((t.map (fun c => (c.toNat : Int)) ++ r).take (t.length : Int).toNat).map (fun n => UInt8.ofNat n.toNat), ((t.length : Int) :: (t.map (fun c => (c.toNat : Int)) ++ r)).drop ((t.length : Int) + 1).toNat) = _
  rw [show ((t.length : Int) + 1).toNat = t.length + 1 by omega, Int.toNat_natCast, List.drop_succ_cons, List.take_left' hl, List.drop_left' hl, List.map_map]
  congr 2
  conv => rhs; rw [← List.map_id t]
  refine List.map_congr_left fun c _ => ?_
  show UInt8.ofNat ((c.toNat : Int)).toNat = c
  rw [Int.toNat_natCast]
  exact UInt8.ofNat_toNat
theorem pG1_f : ∀ (g : List Int), (∀ v ∈ g, 0 ≤ v ∧ v < 256) → ∀ r : List Int, pG 1 g.length (g.map wB ++ r) = some (g, r)
  | [], _, r => rfl
  | a :: g, h, r => by
    show bnd (pN 1) (fun v => bnd (pG 1 g.length) fun l => rt (v :: l)) (wB a :: (g.map wB ++ r)) = _
    unfold bnd
    rw [pN1_f (h a (by simp))]
    dsimp only
    rw [pG1_f g (fun v hv => h v (List.mem_cons_of_mem _ hv)) r]
    rfl
theorem pG2_f : ∀ (g : List Int), (∀ v ∈ g, 0 ≤ v ∧ v < 65536) → ∀ r : List Int, pG 2 g.length (g.flatMap e2B ++ r) = some (g, r)
  | [], _, r => rfl
  | a :: g, h, r => by
    show bnd (pN 2) (fun v => bnd (pG 2 g.length) fun l => rt (v :: l)) ((a :: g).flatMap e2B ++ r) = _
    unfold bnd
    rw [List.flatMap_cons, List.append_assoc, pN2_f (h a (by simp))]
    dsimp only
    rw [pG2_f g (fun v hv => h v (List.mem_cons_of_mem _ hv)) r]
    rfl
theorem one_nxt {x x' : Step_T} (h1 : 1 ≤ x.1) (h2 : x.1 ≤ 14) (h : stM x.1 (bdE x) = some (x', [])) : nxt (ptQ x) = some (x', []) := by
  have e : x.1.tmod 15 = x.1 := by rw [Int.tmod_eq_emod_of_nonneg (by omega)]; omega
  have e2 : wB x.1 = x.1 := by rw [wB_eq]; omega
  rw [ptQ_eq, e2]
  have e3 : nxD (x.1 :: bdE x) = x.1 :: bdE x := if_pos (by rw [e]; omega)
  unfold nxt
  rw [e3]
  dsimp only
  rw [e]
  exact h
def OneOk (x : Step_T) : Prop := (gA x).length ≤ 20 ∧ ∃ x', sK x' = sK x ∧ nxt (ptQ x) = some (x', [])
theorem one_tail (x : Step_T) (hx : OneOk x) : Yes (oK (puS.dec [.slc false [.agg (Tu.mk Step_tfs x)]] []) fun d1 => oK (takeS.dec [.slc (puF d1.2).isEmpty ((puF d1.2).map (mkV false [.fi .u8]))] []) fun d2 => bK (decide (((((tsF d2).map (mkV true Step_tfs)).length : Nat) : Int) = 1)) (oK (elemAt true Step_tfs ((tsF d2).map (mkV true Step_tfs)) 0) fun d3 => oK (ssS.dec [.agg (Tu.mk Step_tfs d3), .agg (Tu.mk Step_tfs x)] []) fun d4 => some { pan := false, res := .bool (smF d4), out := [], new := [] }) (some { pan := false, res := .bool false, out := [], new := [] })) := by
  obtain ⟨hg, x', hk, hn⟩ := hx
  have ht : ∀ b, tsF (b, ptQ x) = [x'] := fun b => by rw [ts_some b hn]; rfl
  have hp : put1 x = ptQ x := by
    unfold put1
    rw [ht, if_neg (by omega), if_pos ⟨rfl, by rw [smF_2]; exact decide_eq_true hk⟩]
  have hu : puF [x] = ptQ x := by
    show [x].flatMap put1 = _
    rw [List.flatMap_cons, hp, List.flatMap_nil, List.append_nil]
  have hl := ptQ_len2 x hg
  refine oK_fsq (Q := Yes) puS (false, [x]) (by show [x].length ≤ 300; simp) ?_
  dsimp only
  rw [hu]
  refine oK_fsq (Q := Yes) takeS ((ptQ x).isEmpty, ptQ x) ⟨ptQ_byt x, by show (ptQ x).length ≤ 100000; omega⟩ ?_
  rw [ht]
  refine bK_tq (Q := Yes) rfl ?_
  refine oK_atq (Q := Yes) (fs := Step_tfs) zStp (by decide) (by show (0 : Int).toNat < 1; decide) ?_
  have hg' : (gA x').length ≤ 100000 := by
    have : gA x' = gA x := by
      have := hk
      simp only [sK, Prod.mk.injEq] at this
      exact this.2.2.2
    rw [this]; omega
  refine oK_fsq (Q := Yes) ssS (sm2 x' x) hg' ?_
  have : smF (sm2 x' x) = true := by rw [smF_2]; exact decide_eq_true hk
  rw [this]
  exact yes_leaf
theorem ok1 (v0 : Int) (h0 : 0 ≤ v0 ∧ v0 < 65536) (b : Bool) (v1 : List Int) (l1 : v1.length = 4) (h1 : ∀ u ∈ v1, 0 ≤ u ∧ u < 65536) : OneOk (1, 0, v0, 0, 0, 0, 0, [], (b, v1)) := by
  refine ⟨by show v1.length ≤ 20; omega, (1, 0, v0, 0, 0, 0, 0, [], (noI v1, v1)), rfl, one_nxt (x := (1, 0, v0, 0, 0, 0, 0, [], (b, v1))) (by show (1 : Int) ≤ 1; decide) (by show (1 : Int) ≤ 14; decide) ?_⟩
  have e : bdE (1, 0, v0, 0, 0, 0, 0, [], (b, v1)) = e2B v0 ++ (v1.flatMap e2B ++ []) := by simp [bdE]
  rw [e]
  show stM 1 _ = _
  unfold stM
  rw [if_pos rfl]
  try unfold bnd
  rw [pN2_f h0]
  dsimp only
  try unfold bnd
  rw [← l1, pG2_f v1 h1]
  dsimp only
  rfl
theorem ok2 (v0 : Int) (h0 : 0 ≤ v0 ∧ v0 < 256) : OneOk (2, v0, 0, 0, 0, 0, 0, [], (true, [])) := by
  refine ⟨Nat.zero_le _, (2, v0, 0, 0, 0, 0, 0, [], (true, [])), rfl, one_nxt (x := (2, v0, 0, 0, 0, 0, 0, [], (true, []))) (by show (1 : Int) ≤ 2; decide) (by show (2 : Int) ≤ 14; decide) ?_⟩
  have e : bdE (2, v0, 0, 0, 0, 0, 0, [], (true, [])) = wB v0 :: [] := by simp [bdE]
  rw [e]
  show stM 2 _ = _
  unfold stM
  rw [if_neg (by decide), if_pos rfl]
  try unfold bnd
  rw [pN1_f h0]
  dsimp only
  rfl
theorem ok3 (v0 : Int) (h0 : 0 ≤ v0 ∧ v0 < 256) (v1 : List UInt8) (h1 : v1.length ≤ 255) : OneOk (3, v0, 0, 0, 0, 0, 0, v1, (true, [])) := by
  refine ⟨Nat.zero_le _, (3, v0, 0, 0, 0, 0, 0, v1, (true, [])), rfl, one_nxt (x := (3, v0, 0, 0, 0, 0, 0, v1, (true, []))) (by show (1 : Int) ≤ 3; decide) (by show (3 : Int) ≤ 14; decide) ?_⟩
  have e : bdE (3, v0, 0, 0, 0, 0, 0, v1, (true, [])) = wB v0 :: (txE v1 ++ []) := by simp [bdE]
  rw [e]
  show stM 3 _ = _
  unfold stM
  rw [if_neg (by decide), if_neg (by decide), if_pos rfl]
  try unfold bnd
  rw [pN1_f h0]
  dsimp only
  try unfold bnd
  rw [pT_f h1]
  dsimp only
  rfl
theorem ok4 (v0 : Int) (h0 : 0 ≤ v0 ∧ v0 < 256) (v1 : Int) (h1 : 0 ≤ v1 ∧ v1 < 256) : OneOk (4, v0, 0, v1, 0, 0, 0, [], (true, [])) := by
  refine ⟨Nat.zero_le _, (4, v0, 0, v1, 0, 0, 0, [], (true, [])), rfl, one_nxt (x := (4, v0, 0, v1, 0, 0, 0, [], (true, []))) (by show (1 : Int) ≤ 4; decide) (by show (4 : Int) ≤ 14; decide) ?_⟩
  have e : bdE (4, v0, 0, v1, 0, 0, 0, [], (true, [])) = wB v0 :: wB v1 :: [] := by simp [bdE]
  rw [e]
  show stM 4 _ = _
  unfold stM
  rw [if_neg (by decide), if_neg (by decide), if_neg (by decide), if_pos rfl]
  try unfold bnd
  rw [pN1_f h0]
  dsimp only
  try unfold bnd
  rw [pN1_f h1]
  dsimp only
  rfl
theorem ok6 (v0 : Int) (h0 : 0 ≤ v0 ∧ v0 < 256) (v1 : Int) (h1 : 0 ≤ v1 ∧ v1 < 256) : OneOk (6, v0, 0, v1, 0, 0, 0, [], (true, [])) := by
  refine ⟨Nat.zero_le _, (6, v0, 0, v1, 0, 0, 0, [], (true, [])), rfl, one_nxt (x := (6, v0, 0, v1, 0, 0, 0, [], (true, []))) (by show (1 : Int) ≤ 6; decide) (by show (6 : Int) ≤ 14; decide) ?_⟩
  have e : bdE (6, v0, 0, v1, 0, 0, 0, [], (true, [])) = wB v0 :: wB v1 :: [] := by simp [bdE]
  rw [e]
  show stM 6 _ = _
  unfold stM
  rw [if_neg (by decide), if_neg (by decide), if_neg (by decide), if_neg (by decide), if_pos rfl]
  try unfold bnd
  rw [pN1_f h0]
  dsimp only
  try unfold bnd
  rw [pN1_f h1]
  dsimp only
  rfl
theorem ok7 (v0 : Int) (h0 : 0 ≤ v0 ∧ v0 < 256) (v1 : Int) (h1 : 0 ≤ v1 ∧ v1 < 256) : OneOk (7, v0, 0, v1, 0, 0, 0, [], (true, [])) := by
  refine ⟨Nat.zero_le _, (7, v0, 0, v1, 0, 0, 0, [], (true, [])), rfl, one_nxt (x := (7, v0, 0, v1, 0, 0, 0, [], (true, []))) (by show (1 : Int) ≤ 7; decide) (by show (7 : Int) ≤ 14; decide) ?_⟩
  have e : bdE (7, v0, 0, v1, 0, 0, 0, [], (true, [])) = wB v0 :: wB v1 :: [] := by simp [bdE]
  rw [e]
  show stM 7 _ = _
  unfold stM
  rw [if_neg (by decide), if_neg (by decide), if_neg (by decide), if_neg (by decide), if_neg (by decide), if_pos rfl]
  try unfold bnd
  rw [pN1_f h0]
  dsimp only
  try unfold bnd
  rw [pN1_f h1]
  dsimp only
  rfl
theorem ok8 (v0 : Int) (h0 : 0 ≤ v0 ∧ v0 < 256) (v1 : Int) (h1 : 0 ≤ v1 ∧ v1 < 256) : OneOk (8, v0, 0, v1, 0, 0, 0, [], (true, [])) := by
  refine ⟨Nat.zero_le _, (8, v0, 0, v1, 0, 0, 0, [], (true, [])), rfl, one_nxt (x := (8, v0, 0, v1, 0, 0, 0, [], (true, []))) (by show (1 : Int) ≤ 8; decide) (by show (8 : Int) ≤ 14; decide) ?_⟩
  have e : bdE (8, v0, 0, v1, 0, 0, 0, [], (true, [])) = wB v0 :: wB v1 :: [] := by simp [bdE]
  rw [e]
  show stM 8 _ = _
  unfold stM
  rw [if_neg (by decide), if_neg (by decide), if_neg (by decide), if_neg (by decide), if_neg (by decide), if_neg (by decide), if_pos rfl]
  try unfold bnd
  rw [pN1_f h0]
  dsimp only
  try unfold bnd
  rw [pN1_f h1]
  dsimp only
  rfl
theorem ok5 (v0 : Int) (h0 : 0 ≤ v0 ∧ v0 < 256) (v1 : Int) (h1 : 0 ≤ v1 ∧ v1 < 256) (v2 : Int) (h2 : 0 ≤ v2 ∧ v2 < 256) (v3 : List UInt8) (h3 : v3.length ≤ 255) : OneOk (5, v0, 0, v1, v2, 0, 0, v3, (true, [])) := by
  refine ⟨Nat.zero_le _, (5, v0, 0, v1, v2, 0, 0, v3, (true, [])), rfl, one_nxt (x := (5, v0, 0, v1, v2, 0, 0, v3, (true, []))) (by show (1 : Int) ≤ 5; decide) (by show (5 : Int) ≤ 14; decide) ?_⟩
  have e : bdE (5, v0, 0, v1, v2, 0, 0, v3, (true, [])) = wB v0 :: wB v1 :: wB v2 :: (txE v3 ++ []) := by simp [bdE]
  rw [e]
  show stM 5 _ = _
  unfold stM
  rw [if_neg (by decide), if_neg (by decide), if_neg (by decide), if_neg (by decide), if_neg (by decide), if_neg (by decide), if_neg (by decide), if_pos rfl]
  try unfold bnd
  rw [pN1_f h0]
  dsimp only
  try unfold bnd
  rw [pN1_f h1]
  dsimp only
  try unfold bnd
  rw [pN1_f h2]
  dsimp only
  try unfold bnd
  rw [pT_f h3]
  dsimp only
  rfl
theorem ok12 (v0 : Int) (h0 : 0 ≤ v0 ∧ v0 < 256) (v1 : Int) (h1 : 0 ≤ v1 ∧ v1 < 65536) : OneOk (12, 0, 0, 0, 0, v0, v1, [], (true, [])) := by
  refine ⟨Nat.zero_le _, (12, 0, 0, 0, 0, v0, v1, [], (true, [])), rfl, one_nxt (x := (12, 0, 0, 0, 0, v0, v1, [], (true, []))) (by show (1 : Int) ≤ 12; decide) (by show (12 : Int) ≤ 14; decide) ?_⟩
  have e : bdE (12, 0, 0, 0, 0, v0, v1, [], (true, [])) = wB v0 :: (e2B v1 ++ []) := by simp [bdE]
  rw [e]
  show stM 12 _ = _
  unfold stM
  rw [if_neg (by decide), if_neg (by decide), if_neg (by decide), if_neg (by decide), if_neg (by decide), if_neg (by decide), if_neg (by decide), if_neg (by decide), if_pos rfl]
  try unfold bnd
  rw [pN1_f h0]
  dsimp only
  try unfold bnd
  rw [pN2_f h1]
  dsimp only
  rfl
theorem ok14 (v0 : Int) (h0 : 0 ≤ v0 ∧ v0 < 256) (b : Bool) (v1 : List Int) (l1 : v1.length ≤ 20) (h1 : ∀ u ∈ v1, 0 ≤ u ∧ u < 256) : OneOk (14, v0, 0, 0, 0, 0, 0, [], (b, v1)) := by
  refine ⟨by show v1.length ≤ 20; omega, (14, v0, 0, 0, 0, 0, 0, [], (noI v1, v1)), rfl, one_nxt (x := (14, v0, 0, 0, 0, 0, 0, [], (b, v1))) (by show (1 : Int) ≤ 14; decide) (by show (14 : Int) ≤ 14; decide) ?_⟩
  have e : bdE (14, v0, 0, 0, 0, 0, 0, [], (b, v1)) = wB v0 :: wB (v1.length : Int) :: (v1.map wB ++ []) := by simp [bdE]
  rw [e]
  show stM 14 _ = _
  unfold stM
  rw [if_neg (by decide), if_neg (by decide), if_neg (by decide), if_neg (by decide), if_neg (by decide), if_neg (by decide), if_neg (by decide), if_neg (by decide), if_neg (by decide), if_pos rfl]
  try unfold bnd
  rw [pN1_f h0]
  dsimp only
  try unfold bnd
  rw [pN1_f (show (0 : Int) ≤ (v1.length : Int) ∧ (v1.length : Int) < 256 by omega)]
  dsimp only
  rw [if_neg (by omega), Int.toNat_natCast]
  try unfold bnd
  rw [pG1_f v1 h1]
  dsimp only
  rfl
theorem okd (k : Int) (hk : k = 9 ∨ k = 10 ∨ k = 11 ∨ k = 13) (v0 : Int) (h0 : 0 ≤ v0 ∧ v0 < 256) : OneOk (k, 0, 0, 0, 0, v0, 0, [], (true, [])) := by
  refine ⟨Nat.zero_le _, (k, 0, 0, 0, 0, v0, 0, [], (true, [])), rfl, one_nxt (x := (k, 0, 0, 0, 0, v0, 0, [], (true, []))) (by show 1 ≤ k; omega) (by show k ≤ 14; omega) ?_⟩
  have n1 : ∀ m : Int, m = 1 ∨ m = 2 ∨ m = 3 ∨ m = 4 ∨ m = 6 ∨ m = 7 ∨ m = 8 ∨ m = 5 ∨ m = 12 ∨ m = 14 → ¬ k = m := fun m hm => by omega
  have e : bdE (k, 0, 0, 0, 0, v0, 0, [], (true, [])) = wB v0 :: [] := by unfold bdE; dsimp only; rw [if_neg (n1 1 (by decide)), if_neg (n1 2 (by decide)), if_neg (n1 3 (by decide)), if_neg (n1 4 (by decide)), if_neg (n1 6 (by decide)), if_neg (n1 7 (by decide)), if_neg (n1 8 (by decide)), if_neg (n1 5 (by decide)), if_neg (n1 12 (by decide)), if_neg (n1 14 (by decide))]
  rw [e]
  show stM k _ = _
  unfold stM
  rw [if_neg (n1 1 (by decide)), if_neg (n1 2 (by decide)), if_neg (n1 3 (by decide)), if_neg (n1 4 (by decide)), if_neg (n1 6 (by decide)), if_neg (n1 7 (by decide)), if_neg (n1 8 (by decide)), if_neg (n1 5 (by decide)), if_neg (n1 12 (by decide)), if_neg (n1 14 (by decide))]
  try unfold bnd
  rw [pN1_f h0]
  dsimp only
  rfl
theorem u8w {v : Int} (h : 0 ≤ v ∧ v ≤ 255) : IntKind.i64.wrap v = v := w64 (by omega) (by omega)
theorem u16w {v : Int} (h : 0 ≤ v ∧ v ≤ 65535) : IntKind.i64.wrap v = v := w64 (by omega) (by omega)
theorem opsOne_yes (kind : Int) (r : Int) (f : Int) (off : Int) (i : Int) (to_ : Int) (s : List UInt8) (g0 : Int) (g1 : Int) (g2 : Int) (g3 : Int) (n : Int) (h : Tu.wf opsOne_fs (kind, r, f, off, i, to_, s, g0, g1, g2, g3, n)) : Yes (opsOne_r kind r f off i to_ s g0 g1 g2 g3 n) := by
  obtain ⟨hk, hr, hf, ho, hi, ht, _, q0, q1, q2, q3, hn⟩ := h
  have hk : (0 : Int) ≤ kind ∧ kind ≤ 255 := hk
  have hr : (0 : Int) ≤ r ∧ r ≤ 255 := hr
  have hf : (0 : Int) ≤ f ∧ f ≤ 255 := hf
  have ho : (0 : Int) ≤ off ∧ off ≤ 255 := ho
  have hi : (0 : Int) ≤ i ∧ i ≤ 255 := hi
  have ht : (0 : Int) ≤ to_ ∧ to_ ≤ 65535 := ht
  have q0 : (0 : Int) ≤ g0 ∧ g0 ≤ 65535 := q0
  have q1 : (0 : Int) ≤ g1 ∧ g1 ≤ 65535 := q1
  have q2 : (0 : Int) ≤ g2 ∧ g2 ≤ 65535 := q2
  have q3 : (0 : Int) ≤ g3 ∧ g3 ≤ 65535 := q3
  have hn : (0 : Int) ≤ n ∧ n ≤ 255 := hn
  have k1 := Int.tmod_nonneg 14 hk.1
  have k2 := Int.tmod_lt_of_pos kind (show (0 : Int) < 14 by decide)
  unfold opsOne_r
  refine oK_fsq (Q := Yes) begunS () trivial ?_
  refine bK_iq (Q := Yes) (fun _ => yes_leaf) (fun hs => ?_)
  have hs : s.length ≤ 255 := by omega
  rw [w64 (n := kind.tmod 14) (by omega) (by omega), w64 (n := 1 + kind.tmod 14) (by omega) (by omega), u8w hr, u8w hf, u8w ho, u8w hi, u16w ht, u16w q0, u16w q1, u16w q2, u16w q3]
  generalize hK : 1 + kind.tmod 14 = k
  have b8 : ∀ {v : Int}, 0 ≤ v ∧ v ≤ 255 → 0 ≤ v ∧ v < 256 := fun h => by omega
  have b16 : ∀ {v : Int}, 0 ≤ v ∧ v ≤ 65535 → 0 ≤ v ∧ v < 65536 := fun h => by omega
  refine bK_iq (Q := Yes) (fun c => ?_) (fun c1 => ?_)
  · subst c
    refine one_tail _ (ok1 to_ (b16 ht) false [g0, g1, g2, g3] rfl fun u hu => ?_)
    simp only [List.mem_cons, List.not_mem_nil, or_false] at hu
    rcases hu with rfl | rfl | rfl | rfl
    · exact b16 q0
    · exact b16 q1
    · exact b16 q2
    · exact b16 q3
  refine bK_iq (Q := Yes) (fun c => ?_) (fun c2 => ?_)
  · subst c; exact one_tail _ (ok2 r (b8 hr))
  refine bK_iq (Q := Yes) (fun c => ?_) (fun c3 => ?_)
  · subst c; exact one_tail _ (ok3 r (b8 hr) s hs)
  refine bK_iq (Q := Yes) (fun c => ?_) (fun c4 => ?_)
  · subst c; exact one_tail _ (ok4 r (b8 hr) f (b8 hf))
  refine bK_iq (Q := Yes) (fun c => ?_) (fun c6 => ?_)
  · subst c; exact one_tail _ (ok6 r (b8 hr) f (b8 hf))
  refine bK_iq (Q := Yes) (fun c => ?_) (fun c7 => ?_)
  · subst c; exact one_tail _ (ok7 r (b8 hr) f (b8 hf))
  refine bK_iq (Q := Yes) (fun c => ?_) (fun c8 => ?_)
  · subst c; exact one_tail _ (ok8 r (b8 hr) f (b8 hf))
  refine bK_iq (Q := Yes) (fun c => ?_) (fun c5 => ?_)
  · subst c; exact one_tail _ (ok5 r (b8 hr) f (b8 hf) off (b8 ho) s hs)
  refine bK_iq (Q := Yes) (fun c => ?_) (fun c12 => ?_)
  · subst c; exact one_tail _ (ok12 i (b8 hi) to_ (b16 ht))
  refine bK_iq (Q := Yes) (fun c => ?_) (fun c14 => ?_)
  · subst c
    have hp : opPre (n, (g0, g1, g2, g3), 14, r) := ⟨hn, q0, q1, q2, q3⟩
    obtain ⟨l1, l2⟩ := opL_spec _ hp
    refine oK_lpf (Q := Yes) opHd_inj (n, (g0, g1, g2, g3), 14, r) hp rfl ?_
    dsimp only
    generalize opL (n, (g0, g1, g2, g3), 14, r) = l at l1 l2 ⊢
    cases l with
    | nil => exact bK_tq (Q := Yes) rfl (one_tail _ (ok14 r (b8 hr) true [] (by decide) l2))
    | cons y t =>
      refine bK_fq (Q := Yes) rfl (bK_tq (Q := Yes) (by simp) ?_)
      rw [List.drop_zero, List.take_length, show decide (0 + ((y :: t).map (mkV false I1_tfs)).length ≤ ((y :: t).map (mkV false I1_tfs)).length) = true from by simp]
      exact one_tail _ (ok14 r (b8 hr) false (y :: t) l1 l2)
  · exact one_tail _ (okd k (by omega) i (b8 hi))

end Go.Proofs.Ytmjgiplgghmapaa
