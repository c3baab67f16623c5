/- What is read of a law's arguments, in kinds; and that it is read so still. -/
import Derived.Test.YtihgfpggdkhhaaaAbL
set_option linter.unusedVariables false
set_option linter.unusedSimpArgs false
namespace Go.Ab
open Go

mutual
def Lf.wf : (f : Lf) → f.T → Prop
  | .fb, _ => True
  | .fi k, n => k.min ≤ n ∧ n ≤ k.max
  | .fs, s => s.length ≤ 9223372036854775807
  | .fl _ fs, p => p.2.length ≤ 9223372036854775807 ∧ ∀ d ∈ p.2, Tu.wf fs d
def Tu.wf : (fs : List Lf) → Tu fs → Prop
  | [], _ => True
  | [f], x => f.wf x
  | f :: g :: r, d => f.wf d.1 ∧ Tu.wf (g :: r) d.2
end

def Lf.Has (f : Lf) (a : AV) : Prop := ∃ x, a = f.mk x ∧ f.wf x
def HasL : List Lf → List AV → Prop
  | [], [] => True
  | f :: fs, a :: as => f.Has a ∧ HasL fs as
  | _, _ => False

theorem hasL_tu : ∀ {fs : List Lf} {as : List AV}, HasL fs as → ∃ d : Tu fs, Tu.mk fs d = as ∧ Tu.wf fs d
  | [], [], _ => ⟨(), rfl, trivial⟩
  | [], _ :: _, h => h.elim
  | _ :: _, [], h => h.elim
  | [f], [a], h => by
    obtain ⟨⟨x, h1, h2⟩, _⟩ := h
    exact ⟨x, by rw [h1]; rfl, h2⟩
  | [f], _ :: _ :: _, h => h.2.elim
  | f :: g :: r, a :: as, h => by
    obtain ⟨⟨x, h1, h2⟩, h3⟩ := h
    obtain ⟨d, h4, h5⟩ := hasL_tu h3
    exact ⟨(x, d), by simp only [Tu.mk, h4, h1], h2, h5⟩

theorem hasL_length : ∀ {fs : List Lf} {as : List AV}, HasL fs as → as.length = fs.length
  | [], [], _ => rfl
  | [], _ :: _, h => h.elim
  | _ :: _, [], h => h.elim
  | f :: fs, a :: as, h => by simp [hasL_length h.2]

theorem hasL_append : ∀ {fs gs : List Lf} {as bs : List AV}, HasL fs as → HasL gs bs → HasL (fs ++ gs) (as ++ bs)
  | [], _, [], _, _, h => h
  | [], _, _ :: _, _, h, _ => h.elim
  | _ :: _, _, [], _, h, _ => h.elim
  | f :: fs, gs, a :: as, bs, h, h' => ⟨h.1, hasL_append h.2 h'⟩

theorem mk_okC : ∀ (f : Lf) (x : f.T), (f.mk x).okC = true
  | .fb, _ => rfl
  | .fi _, _ => rfl
  | .fs, _ => rfl
  | .fl _ _, _ => rfl

theorem hasL_okC : ∀ {fs : List Lf} {as : List AV}, HasL fs as → ∀ a ∈ as, a.okC = true
  | [], [], _, _, h => by simp at h
  | [], _ :: _, h, _, _ => h.elim
  | _ :: _, [], h, _, _ => h.elim
  | f :: fs, a :: as, h, b, hb => by
    rcases List.mem_cons.1 hb with rfl | hb
    · obtain ⟨x, rfl, _⟩ := h.1
      exact mk_okC f x
    · exact hasL_okC h.2 b hb

theorem mk_allC : ∀ {fs : List Lf} (d : Tu fs), ∀ a ∈ Tu.mk fs d, a.okC = true
  | [], _, a, h => by simp [Tu.mk] at h
  | [f], d, a, h => by
    simp [Tu.mk] at h
    subst h
    exact mk_okC f d
  | f :: g :: r, d, a, h => by
    simp only [Tu.mk] at h
    rcases List.mem_cons.1 h with rfl | h
    · exact mk_okC f d.1
    · exact mk_allC (fs := g :: r) d.2 a h

section
variable {P : Program}

def fieldsC (P : Program) (rc : TypeId → Option (List Lf)) (sz : Nat) : List Field → Nat → Option (List Lf)
  | [], off => if off = sz then some [] else none
  | f :: r, off => if f.offset = off then match rc f.type with
      | some l => if l.length = P.cellsOf f.type then match fieldsC P rc sz r (off + l.length) with
          | some m => some (l ++ m)
          | none => none
        else none
      | none => none
    else none

/-- The kinds of a type's cells, looked at closely. -/
def leafsC (P : Program) : Nat → TypeId → Option (List Lf)
  | 0, _ => none
  | d + 1, t => match P.underlying t with
    | some .bool => some [.fb]
    | some (.int k) => some [.fi k]
    | some .string => some [.fs]
    | some (.slice e) => match leafsC P d e, isAggT P e with
      | some l, some agg => if l.length = P.cellsOf e ∧ l.length ≠ 0 ∧ (agg || l.length == 1) = true then some [.fl agg l] else none
      | _, _ => none
    | some (.struct fs) => fieldsC P (leafsC P d) (P.cellsOf t) fs.toList 0
    | some (.array n e) => match leafsC P d e with
      | some l => if l.length = P.cellsOf e ∧ n * P.cellsOf e = P.cellsOf t then some (List.replicate n l).flatten else none
      | none => none
    | _ => none

def AllPV (w : World) (as : List AV) (vs : List Value) : Prop := as.length = vs.length ∧ ∀ (i : Nat) a v, as[i]? = some a → vs[i]? = some v → PV w (fun _ => False) a v

theorem AllPV.nil {w : World} : AllPV w [] [] := ⟨rfl, fun _ _ _ h => by simp at h⟩
theorem AllPV.one {w : World} {a : AV} {v : Value} (h : PV w (fun _ => False) a v) : AllPV w [a] [v] :=
  ⟨rfl, fun i b u h1 h2 => by
    cases i with
    | zero => simp at h1 h2; subst h1; subst h2; exact h
    | succ i => simp at h1⟩
theorem AllPV.append {w : World} {as bs : List AV} {us vs : List Value} (h : AllPV w as us) (h' : AllPV w bs vs) : AllPV w (as ++ bs) (us ++ vs) := by
  refine ⟨by simp [h.1, h'.1], fun i a v h1 h2 => ?_⟩
  by_cases hi : i < as.length
  · rw [List.getElem?_append_left hi] at h1
    rw [List.getElem?_append_left (by rw [← h.1]; exact hi)] at h2
    exact h.2 i a v h1 h2
  · rw [List.getElem?_append_right (by omega)] at h1
    rw [List.getElem?_append_right (by rw [← h.1]; omega), ← h.1] at h2
    exact h'.2 _ a v h1 h2

theorem mapM_range {β : Type} {f : Nat → Option β} : ∀ (n k : Nat) (l : List β), (List.range' k n).mapM f = some l → l.length = n ∧ ∀ (i : Nat) (b : β), l[i]? = some b → f (k + i) = some b
  | 0, k, l, h => by
    simp at h; subst h
    exact ⟨rfl, fun i b h => by simp at h⟩
  | n + 1, k, l, h => by
    rw [List.range'_succ, List.mapM_cons] at h
    cases hk : f k with
    | none => simp [hk] at h
    | some b =>
      cases hr : (List.range' (k + 1) n).mapM f with
      | none => simp [hk, hr] at h
      | some r =>
        simp [hk, hr] at h
        subst h
        obtain ⟨h1, h2⟩ := mapM_range n (k + 1) r hr
        refine ⟨by simp [h1], fun i b' hi => ?_⟩
        cases i with
        | zero => simp at hi; subst hi; exact hk
        | succ i => simp at hi; have := h2 i b' hi; rwa [show k + 1 + i = k + (i + 1) by omega] at this

theorem mapM_range0 {β : Type} {f : Nat → Option β} {n : Nat} {l : List β} (h : (List.range n).mapM f = some l) : l.length = n ∧ ∀ (i : Nat) (b : β), l[i]? = some b → f i = some b := by
  rw [List.range_eq_range'] at h
  obtain ⟨h1, h2⟩ := mapM_range n 0 l h
  exact ⟨h1, fun i b hi => by have := h2 i b hi; rwa [Nat.zero_add] at this⟩

theorem mapM_list {α β : Type} {f : α → Option β} : ∀ {l : List α} {r : List β}, l.mapM f = some r → r.length = l.length ∧ ∀ (i : Nat) (a : α) (b : β), l[i]? = some a → r[i]? = some b → f a = some b
  | [], r, h => by simp at h; subst h; exact ⟨rfl, fun i a b h => by simp at h⟩
  | a :: l, r, h => by
    rw [List.mapM_cons] at h
    cases ha : f a with
    | none => simp [ha] at h
    | some b =>
      cases hr : l.mapM f with
      | none => simp [ha, hr] at h
      | some q =>
        simp [ha, hr] at h
        subst h
        obtain ⟨h1, h2⟩ := mapM_list hr
        refine ⟨by simp [h1], fun i a' b' h3 h4 => ?_⟩
        cases i with
        | zero => simp at h3 h4; subst h3; subst h4; exact ha
        | succ i => simp at h3 h4; exact h2 i a' b' h3 h4

theorem mapM_mk {α β : Type} {f g : α → Option β} : ∀ {l : List α} {r : List β}, l.mapM f = some r → (∀ a ∈ l, ∀ b ∈ r, f a = some b → g a = some b) → l.mapM g = some r
  | [], r, h, _ => h
  | a :: l, r, h, hg => by
    rw [List.mapM_cons] at h
    cases ha : f a with
    | none => simp [ha] at h
    | some b =>
      cases hr : l.mapM f with
      | none => simp [ha, hr] at h
      | some q =>
        simp [ha, hr] at h
        subst h
        rw [List.mapM_cons, hg a (by simp) b (by simp) ha, mapM_mk hr (fun a h1 b h2 h3 => hg a (by simp [h1]) b (by simp [h2]) h3)]
        rfl

theorem build {β : Type} {Q : Nat → β → Prop} : ∀ n, (∀ i, i < n → ∃ b, Q i b) → ∃ l : List β, l.length = n ∧ ∀ (i : Nat) (b : β), l[i]? = some b → Q i b
  | 0, _ => ⟨[], rfl, fun i b h => by simp at h⟩
  | n + 1, h => by
    obtain ⟨l, h1, h2⟩ := build n (fun i hi => h i (by omega))
    obtain ⟨b, hb⟩ := h n (by omega)
    refine ⟨l ++ [b], by simp [h1], fun i b' hi => ?_⟩
    by_cases hn : i < n
    · rw [List.getElem?_append_left (by omega)] at hi
      exact h2 i b' hi
    · rw [List.getElem?_append_right (by omega), h1] at hi
      have : i - n = 0 := by
        cases hk : i - n with
        | zero => rfl
        | succ k => rw [hk] at hi; simp at hi
      rw [this] at hi
      simp at hi
      subst hi
      have : i = n := by omega
      subst this
      exact hb

theorem mkV_cells {agg : Bool} {l : List Lf} (h : (agg || l.length == 1) = true) (d : Tu l) : (mkV agg l d).cells = Tu.mk l d := by
  cases agg with
  | true => rfl
  | false =>
    have : l.length = 1 := by simpa using h
    match l, this with
    | [f], _ => rw [mkV_scalar, Lf.mk_cells]; rfl

theorem cells_two {W W' : World} (hk : ∀ i, i < W.heap.size → W'.heap[i]? = W.heap[i]?) {a : Addr} {n : Nat} {cs : List Value} (h : W.cells? 0 a n = some cs) : W'.cells? 0 a n = some cs := by
  unfold World.cells? at h ⊢
  rw [if_pos (Nat.zero_le _)] at h ⊢
  refine mapM_mk h (fun i _ v _ hv => ?_)
  unfold World.cell? at hv ⊢
  cases hb : W.heap[(a.add i).block]? with
  | none => rw [hb] at hv; cases hv
  | some o =>
    rw [hk _ (Array.getElem?_eq_some_iff.1 hb).1, hb]
    rw [hb] at hv
    exact hv

theorem cells_at {W : World} {a : Addr} {n : Nat} {cs : List Value} (h : W.cells? 0 a n = some cs) : cs.length = n ∧ ∀ (i : Nat) v, cs[i]? = some v → W.cell? (a.add i) = some v := by
  unfold World.cells? at h
  rw [if_pos (Nat.zero_le _)] at h
  exact mapM_range0 h

theorem trod_bind {H : Type} {enc : TypeId × Value → H} {W W' : World} {sp : Nat → Bool} {fuel : Nat} {e : TypeId} {a : Addr} {n : Nat} {y : DataW H × List MemPlace}
    (hk : ∀ i, i < W.heap.size → W'.heap[i]? = W.heap[i]?)
    (h : ((W.cells? 0 a n).bind (DataW.trod enc P W 0 (fun _ => true) true fuel e)) = some y)
    (ih : ∀ cs, DataW.trod enc P W 0 (fun _ => true) true fuel e cs = some y → DataW.trod enc P W' 0 sp true fuel e cs = some y) :
    ((W'.cells? 0 a n).bind (DataW.trod enc P W' 0 sp true fuel e)) = some y := by
  cases hc : W.cells? 0 a n with
  | none => rw [hc] at h; cases h
  | some cs =>
    rw [hc] at h
    rw [cells_two hk hc]
    exact ih cs h

theorem flatMap_getElem? {es : List AV} {sz k : Nat} (h : ∀ e ∈ es, e.cells.length = sz) (hk : k < es.length * sz) : ∃ e, es[k / sz]? = some e ∧ (es.flatMap AV.cells)[k]? = e.cells[k % sz]? := by
  have hz : 0 < sz := by
    cases sz with
    | zero => simp at hk
    | succ n => omega
  have hi : k / sz < es.length := (Nat.div_lt_iff_lt_mul hz).2 hk
  refine ⟨es[k / sz], List.getElem?_eq_getElem hi, ?_⟩
  have := flat_get h (List.getElem?_eq_getElem hi) (Nat.mod_lt k hz)
  rw [show k / sz * sz + k % sz = k by rw [Nat.mul_comm]; exact Nat.div_add_mod k sz] at this
  exact this
end
end Go.Ab
