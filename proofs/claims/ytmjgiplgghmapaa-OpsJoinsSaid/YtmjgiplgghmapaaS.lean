/- A part of the proof: contracts of functions. -/
import Derived.Test.YtmjgiplgghmapaaO
import Derived.Test.YtmjgiplgghmapaaAbAny

set_option linter.unusedVariables false
set_option linter.unusedSimpArgs false
set_option maxRecDepth 100000
namespace Go.Proofs.Ytmjgiplgghmapaa
open Go Go.Ab
set_option maxHeartbeats 8000000
/-- The next step. -/
def nxt (b : List Int) : Option (Step_T × List Int) := match nxD b with
  | [] => none
  | a :: r => stM (a.tmod 15) r
theorem nz_M (x : Bool) (b : List Int) : cM (nzE x b) = nxt b := by
  unfold nzE nxt
  cases nxD b with
  | nil => rfl
  | cons a r => exact st_M x r _
theorem nz_some {b : List Int} {s : Step_T} {r : List Int} (x : Bool) (h : nxt b = some (s, r)) : nzO (x, b) = true ∧ nzS (x, b) = s ∧ nzB (x, b) = r := by
  rw [← nz_M x] at h
  show (nzE x b).1.isSome = true ∧ (nzE x b).1.getD zStp = s ∧ (nzE x b).2 = r
  generalize nzE x b = o at h
  obtain ⟨o1, o2⟩ := o
  cases o1 with
  | none => cases h
  | some s' => cases h; exact ⟨rfl, rfl, rfl⟩
theorem nz_none {b : List Int} (x : Bool) (h : nxt b = none) : ¬ nzO (x, b) = true := by
  rw [← nz_M x] at h
  show ¬ (nzE x b).1.isSome = true
  generalize nzE x b = o at h
  obtain ⟨o1, o2⟩ := o
  cases o1 with
  | none => exact fun h => by cases h
  | some s' => cases h
theorem nxt_lt {b : List Int} {s : Step_T} {r : List Int} (h : nxt b = some (s, r)) : r <:+ b ∧ r.length < b.length := by
  obtain ⟨h1, _, h3⟩ := nz_some false h
  rw [← h3]
  exact nz_suf false b h1
theorem tsN_irr (x y : Bool) : ∀ (n m : Nat) (b : List Int), b.length ≤ n → b.length ≤ m → tsN x n b = tsN y m b
  | 0, m, b, hn, hm => by
    have e : b = [] := List.eq_nil_of_length_eq_zero (by omega)
    subst e
    cases m with
    | zero => rfl
    | succ m =>
      show [] = tsN y (m + 1) []
      unfold tsN
      rw [if_neg (nz_none y (b := []) rfl)]
  | n + 1, m, b, hn, hm => by
    cases hx : nxt b with
    | none =>
      have h1 : tsN x (n + 1) b = [] := by unfold tsN; rw [if_neg (nz_none x hx)]
      rw [h1]
      cases m with
      | zero => rfl
      | succ m => unfold tsN; rw [if_neg (nz_none y hx)]
    | some sr =>
      obtain ⟨s, r⟩ := sr
      obtain ⟨a1, a2, a3⟩ := nz_some x hx
      obtain ⟨b1, b2, b3⟩ := nz_some y hx
      have hl := (nxt_lt hx).2
      cases m with
      | zero => omega
      | succ m =>
        have h1 : tsN x (n + 1) b = s :: tsN x n r := by rw [tsN, if_pos a1, a2, a3]
        have h2 : tsN y (m + 1) b = s :: tsN y m r := by rw [tsN, if_pos b1, b2, b3]
        rw [h1, h2, tsN_irr x y n m r (by omega) (by omega)]
theorem ts_some (x : Bool) {b : List Int} {s : Step_T} {r : List Int} (h : nxt b = some (s, r)) : tsF (x, b) = s :: tsF (x, r) := by
  obtain ⟨a1, a2, a3⟩ := nz_some x h
  have hl := (nxt_lt h).2
  show tsN x b.length b = s :: tsN x r.length r
  obtain ⟨n, hn⟩ := Nat.exists_eq_succ_of_ne_zero (show b.length ≠ 0 by omega)
  rw [hn, Nat.succ_eq_add_one, tsN, if_pos a1, a2, a3, tsN_irr x x n r.length r (by omega) (Nat.le_refl _)]
theorem ts_none (x : Bool) {b : List Int} (h : nxt b = none) : tsF (x, b) = [] := by
  show tsN x b.length b = []
  cases b.length with
  | zero => rfl
  | succ n => rw [tsN, if_neg (nz_none x h)]
theorem ts_x (x y : Bool) (b : List Int) : tsF (x, b) = tsF (y, b) := tsN_irr x y _ _ b (Nat.le_refl _) (Nat.le_refl _)
/-- A step that comes back from its bytes. -/
structure Canon (s : Step_T) : Prop where
  k1 : 1 ≤ s.1
  k2 : s.1 ≤ 14
  g : (gA s).length ≤ 20
  rd : ∀ r, stM s.1 (bdE s ++ r) = some (s, r)
  cut : ∀ q, q <+: bdE s → q ≠ bdE s → stM s.1 q = none
theorem nxt_canon {b : List Int} {s : Step_T} {r : List Int} (hb : byt b) (h : nxt b = some (s, r)) : Canon s := by
  have hg : (gA s).length ≤ 20 := by
    have h1 := nzS_g false b
    rw [(nz_some false h).2.1] at h1
    exact h1
  unfold nxt at h
  have hs := sf_nx b
  have hn : ∀ a t, nxD b = a :: t → 0 < a.tmod 15 := by
    clear h hs hb hg
    induction b with
    | nil => intro a t h; cases h
    | cons c b ih =>
      intro a t h
      unfold nxD at h
      split at h
      · next h1 => cases h; exact h1
      · exact ih a t h
  cases hd : nxD b with
  | nil => rw [hd] at h; cases h
  | cons a t =>
    rw [hd] at h hs
    have hk := hn a t hd
    have ha : byt (a :: t) := byt_suf hs hb
    have ha0 := ha a (by simp)
    have hlt := Int.tmod_lt_of_pos a (show (0 : Int) < 15 by decide)
    obtain ⟨p, e1, ⟨e2, e3⟩, e4, e5⟩ := st_rd (a.tmod 15) (by omega) (by omega) t s r (fun v hv => ha v (List.mem_cons_of_mem _ hv)) h
    rw [← e2] at e4 e5 hk hlt
    subst e3
    exact ⟨by omega, by omega, hg, e4, e5⟩
theorem ts_canon (x : Bool) : ∀ (n : Nat) (b : List Int), byt b → ∀ s ∈ tsN x n b, Canon s
  | 0, b, hb, s, h => by cases h
  | n + 1, b, hb, s, h => by
    cases hx : nxt b with
    | none => rw [tsN, if_neg (nz_none x hx)] at h; cases h
    | some sr =>
      obtain ⟨s', r⟩ := sr
      obtain ⟨a1, a2, a3⟩ := nz_some x hx
      rw [tsN, if_pos a1, a2, a3] at h
      rcases List.mem_cons.1 h with rfl | h
      · exact nxt_canon hb hx
      · exact ts_canon x n r (byt_suf (nxt_lt hx).1 hb) s h
theorem Canon.head {s : Step_T} (h : Canon s) : wB s.1 = s.1 ∧ s.1.tmod 15 = s.1 ∧ ∀ t, nxD (s.1 :: t) = s.1 :: t := by
  obtain ⟨h1, h2, _, _, _⟩ := h
  have e : s.1.tmod 15 = s.1 := by rw [Int.tmod_eq_emod_of_nonneg (by omega)]; omega
  exact ⟨by rw [wB_eq]; omega, e, fun t => if_pos (by rw [e]; omega)⟩
theorem Canon.nxt {s : Step_T} (h : Canon s) (r : List Int) : nxt (ptQ s ++ r) = some (s, r) := by
  obtain ⟨e1, e2, e3⟩ := h.head
  rw [ptQ_eq, e1, List.cons_append]
  show (match nxD (s.1 :: (bdE s ++ r)) with
    | [] => none
    | a :: r => stM (a.tmod 15) r) = _
  rw [e3]
  dsimp only
  rw [e2]
  exact h.rd r
theorem Canon.cutn {s : Step_T} (h : Canon s) (q : List Int) (hq : q <+: ptQ s) (hn : q ≠ ptQ s) : Go.Proofs.Ytmjgiplgghmapaa.nxt q = none := by
  obtain ⟨e1, e2, e3⟩ := h.head
  rw [ptQ_eq, e1] at hq hn
  cases q with
  | nil => rfl
  | cons c q =>
    obtain ⟨rfl, h2⟩ := List.cons_prefix_cons.1 hq
    show (match nxD (s.1 :: q) with
      | [] => none
      | a :: r => stM (a.tmod 15) r) = _
    rw [e3]
    dsimp only
    rw [e2]
    exact h.cut q h2 (fun e => hn (by rw [e]))
theorem ts_app (x : Bool) : ∀ (l : List Step_T) (r : List Int), (∀ s ∈ l, Canon s) → tsF (x, l.flatMap ptQ ++ r) = l ++ tsF (x, r)
  | [], r, _ => rfl
  | s :: l, r, h => by
    rw [List.flatMap_cons, List.append_assoc, ts_some x ((h s (by simp)).nxt _), ts_app x l r fun s hs => h s (List.mem_cons_of_mem _ hs)]
    rfl
theorem ts_nil (x : Bool) : tsF (x, []) = [] := rfl
theorem ts_one (x : Bool) {s : Step_T} (h : Canon s) : tsF (x, ptQ s) = [s] := by
  have := ts_app x [s] [] (fun t ht => by rw [List.mem_singleton.1 ht]; exact h)
  simpa [ts_nil] using this
theorem put1_eq {s : Step_T} (h : Canon s) : put1 s = ptQ s := by
  have hg := h.g
  unfold put1
  rw [ts_one false h, if_neg (by omega), if_pos ⟨rfl, by rw [smF_2]; exact decide_eq_true rfl⟩]
theorem puF_eq : ∀ {l : List Step_T}, (∀ s ∈ l, Canon s) → puF l = l.flatMap ptQ
  | [], _ => rfl
  | s :: l, h => by
    show (s :: l).flatMap put1 = _
    rw [List.flatMap_cons, List.flatMap_cons, put1_eq (h s (by simp))]
    have := puF_eq (l := l) fun s hs => h s (List.mem_cons_of_mem _ hs)
    have e : puF l = l.flatMap put1 := rfl
    rw [← e, this]
theorem ts_cut (x : Bool) : ∀ (l : List Step_T) (k : Nat), (∀ s ∈ l, Canon s) → k < (l.flatMap ptQ).length → ∃ j, j < l.length ∧ tsF (x, (l.flatMap ptQ).take k) = l.take j
  | [], k, _, hk => by simp at hk
  | s :: l, k, h, hk => by
    have hs := h s (by simp)
    rw [List.flatMap_cons] at hk ⊢
    by_cases h1 : k < (ptQ s).length
    · refine ⟨0, by simp, ?_⟩
      rw [List.take_append_of_le_length (by omega)]
      exact ts_none x (hs.cutn _ (List.take_prefix _ _) (fun e => by
        have := congrArg List.length e
        rw [List.length_take] at this
        omega))
    · obtain ⟨j, h2, h3⟩ := ts_cut x l (k - (ptQ s).length) (fun s hs => h s (List.mem_cons_of_mem _ hs)) (by rw [List.length_append] at hk; omega)
      refine ⟨j + 1, by simp only [List.length_cons]; omega, ?_⟩
      rw [List.take_append, List.take_of_length_le (by omega), ts_some x (hs.nxt _), h3]
      rfl

end Go.Proofs.Ytmjgiplgghmapaa
