/- Calls: what is handed in, what comes back. -/
import Derived.Test.YtihgfpggdkhhaaaAbConv
set_option linter.unusedVariables false
set_option linter.unusedSimpArgs false
namespace Go.Ab
open Go

theorem look_app {α : Type} (a b : List (Nat × α)) (i : Nat) : look (a ++ b) i = match look a i with | some x => some x | none => look b i := by
  induction a with
  | nil => rfl
  | cons h t ih =>
    obtain ⟨j, x⟩ := h
    rw [List.cons_append, look_cons, look_cons]
    by_cases e : j = i
    · simp [e]
    · simp [e, ih]

theorem look_withKeys (base : Nat) : ∀ (i0 : Nat) (l : List Blk) (b : Nat), look (withKeys base i0 l) b = if base + i0 ≤ b then l[b - (base + i0)]? else none
  | _, [], b => by simp [withKeys, look]
  | i0, x :: r, b => by
    simp only [withKeys, look_cons]
    rw [look_withKeys base (i0 + 1) r b]
    by_cases e : base + i0 = b
    · subst e; simp
    · rw [if_neg e]
      by_cases hle : base + i0 ≤ b
      · have h1 : base + (i0 + 1) ≤ b := by omega
        have h2 : b - (base + i0) = (b - (base + (i0 + 1))) + 1 := by omega
        rw [if_pos h1, if_pos hle, h2, List.getElem?_cons_succ]
      · rw [if_neg hle, if_neg (by omega)]

theorem idx_some : ∀ {ks : List Nat} {b i j : Nat}, idx? ks b i = some j → i ≤ j ∧ ks[j - i]? = some b
  | [], b, i, j, h => by simp [idx?] at h
  | x :: r, b, i, j, h => by
    simp only [idx?] at h
    split at h
    · rename_i e; cases h; subst e; simp
    · obtain ⟨h1, h2⟩ := idx_some h
      refine ⟨by omega, ?_⟩
      have : j - i = (j - (i + 1)) + 1 := by omega
      rw [this, List.getElem?_cons_succ]; exact h2

theorem mapN_get {α : Type} {f : Nat → Option α} : ∀ {l : List Nat} {r : List α}, mapN f l = some r → r.length = l.length ∧ ∀ (i k : Nat), l[i]? = some k → ∃ x, f k = some x ∧ r[i]? = some x
  | [], r, h => by simp [mapN] at h; subst h; simp
  | a :: l, r, h => by
    simp only [mapN] at h
    split at h
    · rename_i b hb
      split at h
      · rename_i bs hbs
        cases h
        obtain ⟨h1, h2⟩ := mapN_get hbs
        refine ⟨by simp [h1], fun i k hk => ?_⟩
        cases i with
        | zero => simp at hk; subst hk; exact ⟨b, hb, rfl⟩
        | succ i => exact h2 i k (by simpa using hk)
      · cases h
    · cases h

theorem mapO_get {α β : Type} {f : α → Option β} : ∀ {l : List α} {r : List β}, mapO f l = some r → r.length = l.length ∧ ∀ (i : Nat) b, r[i]? = some b → ∃ a, l[i]? = some a ∧ f a = some b
  | [], r, h => by simp [mapO] at h; subst h; simp
  | a :: l, r, h => by
    simp only [mapO] at h
    split at h
    · rename_i b hb
      split at h
      · rename_i bs hbs
        cases h
        obtain ⟨h1, h2⟩ := mapO_get hbs
        refine ⟨by simp [h1], fun i x hx => ?_⟩
        cases i with
        | zero => simp at hx; subst hx; exact ⟨a, rfl, hb⟩
        | succ i => exact h2 i x (by simpa using hx)
      · cases h
    · cases h

theorem addNew_nodup : ∀ (l acc : List Nat), acc.Nodup → (addNew acc l).Nodup
  | [], acc, h => h
  | x :: r, acc, h => by
    simp only [addNew]
    split
    · exact addNew_nodup r acc h
    · rename_i hx
      refine addNew_nodup r _ ?_
      rw [List.nodup_append]
      refine ⟨h, by simp, fun a ha b hb => ?_⟩
      simp at hb
      subst hb
      rintro rfl
      exact hx (by simpa using ha)

theorem closeR_nodup (bs : List (Nat × Blk)) : ∀ (n : Nat) (l : List Nat), l.Nodup → (closeR bs n l).Nodup
  | 0, _, h => h
  | n + 1, l, h => closeR_nodup bs n _ (addNew_nodup _ l h)

theorem nodup_get {ks : List Nat} (h : ks.Nodup) {i j k : Nat} (h1 : ks[i]? = some k) (h2 : ks[j]? = some k) : i = j := by
  obtain ⟨l1, e1⟩ := List.getElem?_eq_some_iff.1 h1
  obtain ⟨l2, e2⟩ := List.getElem?_eq_some_iff.1 h2
  rw [List.Nodup, List.pairwise_iff_getElem] at h
  rcases Nat.lt_trichotomy i j with hlt | he | hlt
  · exact absurd (e1.trans e2.symm) (h i j l1 l2 hlt)
  · exact he
  · exact absurd (e2.trans e1.symm) (h j i l2 l1 hlt)

/-- A block under other names. -/
theorem renBlk_some {m : Nat → Nat → Option Nm} {x y : Blk} (h : renBlk m x = some y) : y.v = 0 ∧ y.k = x.k ∧ y.fz = x.fz ∧ y.sz = x.sz ∧ (x.k = .row → y.es = x.es) ∧ (x.k = .box → mapO (renD m) x.es = some y.es) := by
  unfold renBlk at h
  split at h
  · rename_i e; cases h; exact ⟨rfl, e.symm, rfl, rfl, fun h => (by rw [e] at h; cases h), fun h => (by rw [e] at h; cases h)⟩
  · rename_i e; cases h; exact ⟨rfl, e.symm, rfl, rfl, fun _ => rfl, fun h => (by rw [e] at h; cases h)⟩
  · rename_i e
    split at h
    · rename_i es hes; cases h; exact ⟨rfl, e.symm, rfl, rfl, fun h => (by rw [e] at h; cases h), fun _ => hes⟩
    · cases h

theorem mapO_renD_content {c c' : Cx} {m : Nat → Nat → Option Nm} {es es' : List AV} {cells : Array Value}
    (hD : ∀ a a' v, a ∈ es → a.okC = true → V c a v → renD m a = some a' → V c' a' v ∧ a'.okC = true)
    (h : mapO (renD m) es = some es') (hc : Content c es cells) : Content c' es' cells := by
  intro k a' hk
  obtain ⟨_, g⟩ := mapO_get h
  obtain ⟨a, ha, hr⟩ := g k a' hk
  obtain ⟨h1, v, h2, h3⟩ := hc k a ha
  obtain ⟨g1, g2⟩ := hD a a' v (List.mem_of_getElem? ha) h1 h3 hr
  exact ⟨g2, v, h2, g1⟩

section
variable {P : Program} {w0 : World} {G X Lo : Nat → Prop} {c : Cx}

def Gk (c : Cx) (ks : List Nat) (i : Nat) : Prop := ∃ k x, k ∈ ks ∧ look c.S k = some x ∧ x.k ≠ .dead ∧ x.fz = false ∧ c.R k = i
def Lk (c : Cx) (ks : List Nat) (i : Nat) : Prop := ∃ k x, k ∈ ks ∧ look c.S k = some x ∧ x.k ≠ .dead ∧ c.R k = i
def Xk (X : Nat → Prop) (cF : Cx) (ks : List Nat) (i : Nat) : Prop := X i ∨ ∃ b x, b ∉ ks ∧ look cF.S b = some x ∧ x.k ≠ .dead ∧ x.fz = false ∧ cF.R b = i

theorem args_pure (h : WR w0 G X Lo c) {byref : Bool} {l : List Nat} {cF : Cx} (f : FrzTo w0 G X Lo c cF l) {a a' : AV} {v : Value}
    (hl : ∀ b ∈ argRows byref a, b ∈ l) (hv : V c a v) (hr : argOf c.S byref a = some a') : V cF a' v := by
  unfold argOf at hr
  split at hr
  · cases hr; exact hv.mono f.le
  · rename_i hb
    have hl' : ∀ b ∈ rowsA a, b ∈ l := by
      intro b hb'
      apply hl
      unfold argRows
      rw [if_neg hb]; exact hb'
    split at hr
    · cases hr; exact hv.mono f.le
    · cases hr; exact hv.mono f.le
    · exact .pure (pureA_ok h f hl' hv hr).1

theorem argsList_pure (h : WR w0 G X Lo c) {byref : Bool} {l : List Nat} {cF : Cx} (f : FrzTo w0 G X Lo c cF l) : ∀ {as rs : List AV} {vs : List Value},
    (∀ b ∈ as.flatMap (argRows byref), b ∈ l) → VL c as vs → mapO (argOf c.S byref) as = some rs → VL cF rs vs
  | [], rs, vs, _, hv, hr => by
    simp [mapO] at hr; subst hr
    have : vs = [] := List.eq_nil_of_length_eq_zero (by simpa using hv.1.symm)
    subst this
    exact VL.nil
  | a :: as, rs, vs, hl, hv, hr => by
    obtain ⟨v, r, rfl, h1, h2⟩ := VL.of_cons hv
    simp only [mapO] at hr
    split at hr
    · rename_i b hb
      split at hr
      · rename_i bs hbs
        cases hr
        refine VL.cons (args_pure h f (fun x hx => hl x ?_) h1 hb) (argsList_pure h f (fun x hx => hl x ?_) h2 hbs)
        · rw [List.flatMap_cons]; exact List.mem_append.2 (.inl hx)
        · rw [List.flatMap_cons]; exact List.mem_append.2 (.inr hx)
      · cases hr
    · cases hr

/-- What a callee sees. -/
structure Ent (c : Cx) (w0 : World) (G X Lo : Nat → Prop) (cF cc : Cx) (l ks : List Nat) (out : List Blk) : Prop where
  frz : FrzTo w0 G X Lo c cF l
  w : cc.w = c.w
  S : cc.S = outerSt out
  R : ∀ (i k : Nat), ks[i]? = some k → cc.R (outBase + i) = c.R k
  wr : WR c.w (Gk c ks) (Xk X cF ks) (Lk c ks) cc
  nodup : ks.Nodup
  len : out.length = ks.length
  apart : ∀ k ∈ ks, k ∉ l
  blk : ∀ (i k : Nat), ks[i]? = some k → ∃ x y, look c.S k = some x ∧ out[i]? = some y ∧ y.v = 0 ∧ y.k = x.k ∧ y.fz = x.fz ∧ y.sz = x.sz ∧ (x.k = .row → y.es = x.es)

theorem enter_ok (h : WR w0 G X Lo c) {args : List AV} {vs : List Value} (hv : VL c args vs) {byref : Bool} {args2 : List AV} {ks : List Nat} {out : List Blk}
    (hr : callIn c.S byref args = some (args2, ks, out)) :
    ∃ cF cc, Ent c w0 G X Lo cF cc (args.flatMap (argRows byref)) ks out ∧ VL cc args2 vs := by
  unfold callIn at hr
  split at hr
  · cases hr
  · rename_i args1 h1
    dsimp only at hr
    split at hr
    · cases hr
    · rename_i args2' h2
      split at hr
      · cases hr
      · rename_i out' h3
        split at hr
        · rename_i hap
          cases hr
          generalize hks : closeR c.S 3 (addNew [] (args1.flatMap refsA)) = ks at *
          obtain ⟨cF, f⟩ := freezeTo h (args.flatMap (argRows byref))
          have hnd : ks.Nodup := by rw [← hks]; exact closeR_nodup _ _ _ (addNew_nodup _ _ List.nodup_nil)
          have hva : VL cF args1 vs := argsList_pure h f (fun _ hb => hb) hv h1
          obtain ⟨hlen, hget⟩ := mapN_get h3
          have hapart : ∀ k ∈ ks, k ∉ args.flatMap (argRows byref) := fun k hk hk' => by
            have := List.all_eq_true.1 hap k hk'
            simp [hk] at this
          have hlookF : ∀ k ∈ ks, look cF.S k = look c.S k := fun k hk => by
            rw [f.S, look_freeze]
            cases look c.S k with
            | none => rfl
            | some x => simp [hapart k hk]
          have hblk : ∀ (i k : Nat), ks[i]? = some k → ∃ x y, look c.S k = some x ∧ out[i]? = some y ∧ renBlk (nameM c.S ks outBase) x = some y := by
            intro i k hk
            obtain ⟨y, hy, hy'⟩ := hget i k hk
            unfold renAt at hy
            split at hy
            · rename_i x hx; exact ⟨x, y, hx, hy', hy⟩
            · cases hy
          let R' : Nat → Nat := fun b => match ks[b - outBase]? with | some k => c.R k | none => 0
          let cc : Cx := { w := c.w, S := outerSt out, R := R', F := fOf (Xk X cF ks) R' (outerSt out) }
          have hR : ∀ (i k : Nat), ks[i]? = some k → cc.R (outBase + i) = c.R k := by
            intro i k hk
            show R' _ = _
            simp only [R', Nat.add_sub_cancel_left, hk]
          have hlk : ∀ b y, look cc.S b = some y → ∃ i k x, b = outBase + i ∧ ks[i]? = some k ∧ k ∈ ks ∧ look c.S k = some x ∧ out[i]? = some y ∧ renBlk (nameM c.S ks outBase) x = some y ∧ cc.R b = c.R k := by
            intro b y hb
            have hb' : look (withKeys outBase 0 out) b = some y := hb
            rw [look_withKeys] at hb'
            split at hb'
            · rename_i hle
              have hlt := (List.getElem?_eq_some_iff.1 hb').1
              have hk : ks[b - (outBase + 0)]? = some (ks[b - (outBase + 0)]'(by omega)) := List.getElem?_eq_getElem _
              obtain ⟨x, y', g1, g2, g3⟩ := hblk _ _ hk
              have : y' = y := Option.some.inj (g2.symm.trans hb')
              subst this
              refine ⟨b - (outBase + 0), _, x, by omega, hk, List.mem_of_getElem? hk, g1, g2, g3, ?_⟩
              have e : outBase + (b - (outBase + 0)) = b := by omega
              have := hR _ _ hk
              rw [e] at this
              exact this
            · cases hb'
          have hFsub : ∀ b, cc.F b → cF.F b := by
            intro b hb
            rw [f.wr.hF]
            rcases hb with (hx | ⟨b', x, g1, g2, g3, g4, g5⟩) | ⟨b', y, g1, g2, g3, g4⟩
            · exact .inl hx
            · exact .inr ⟨b', x, g2, g3, g4, g5⟩
            · obtain ⟨i, k, x, e1, e2, e3, e4, e5, e6, e7⟩ := hlk b' y g1
              obtain ⟨q1, q2, q3, q4, q5, q6⟩ := renBlk_some e6
              have g4' : cc.R b' = b := g4
              exact .inr ⟨k, x, by rw [hlookF k e3]; exact e4, by rw [← q2]; exact g2, by rw [← q3]; exact g3, by rw [f.R, ← e7]; exact g4'⟩
          have hren : Ren cF cc (nameM c.S ks outBase) := by
            refine ⟨by rw [f.w]; exact Nat.le_refl _, fun b _ hb hb' => hb (hFsub b hb'), fun b _ _ => by rw [f.w], fun b v n hn => ?_⟩
            unfold nameM at hn
            split at hn
            · rename_i x hx
              split at hn
              · rename_i i hi
                cases hn
                obtain ⟨k1, k2, k3⟩ := ldBlk_some hx
                obtain ⟨_, hi2⟩ := idx_some hi
                have hi2' : ks[i]? = some b := by simpa using hi2
                have hmem := List.mem_of_getElem? hi2'
                obtain ⟨x', y, g1, g2, g3⟩ := hblk i b hi2'
                have : x' = x := Option.some.inj (g1.symm.trans k1)
                subst this
                obtain ⟨q1, q2, q3, q4, q5, q6⟩ := renBlk_some g3
                refine ⟨x', by rw [hlookF b hmem]; exact k1, k2, y, ?_, Nat.zero_le _, fun _ _ => ⟨q2, by rw [hR i b hi2', f.R], q4, fun hrow => by rw [q5 hrow], fun cells t fr hc => ⟨cells, t, fr, ?_, rfl⟩⟩⟩
                · show look (withKeys outBase 0 out) _ = _
                  rw [look_withKeys, if_pos (by omega)]
                  rw [show outBase + i - (outBase + 0) = i by omega]; exact g2
                · rw [hR i b hi2', ← f.R]
                  show c.w.heap[_]? = _
                  rw [← f.w]; exact hc
              · cases hn
            · cases hn
          have hwr : WR c.w (Gk c ks) (Xk X cF ks) (Lk c ks) cc := by
            refine ⟨Nat.le_refl _, fun _ _ _ => rfl, rfl, rfl, ?_, ?_, ?_, ?_, ?_, fun _ => Iff.rfl⟩
            · rintro i (hx | ⟨b, x, g1, g2, g3, g4, g5⟩)
              · exact Nat.lt_of_lt_of_le (h.xs i hx) h.size
              · rw [← g5, ← f.w]; exact (f.wr.blk b x g2 g3).lt
            · intro b y g1 g2
              obtain ⟨i, k, x, e1, e2, e3, e4, e5, e6, e7⟩ := hlk b y g1
              obtain ⟨q1, q2, q3, q4, q5, q6⟩ := renBlk_some e6
              rw [e7]
              refine ⟨fun hf => .inr ⟨k, x, e3, e4, by rw [← q2]; exact g2, by rw [← q3]; exact hf, rfl⟩, ?_⟩
              rintro (hx | ⟨b', x', j1, j2, j3, j4, j5⟩)
              · exact (h.own k x e4 (by rw [← q2]; exact g2)).2 hx
              · have : b' = k := f.wr.inj b' k x' x j2 j3 (by rw [hlookF k e3]; exact e4) (by rw [← q2]; exact g2) (by rw [j5, f.R])
                exact j1 (this ▸ e3)
            · intro b y g1 g2
              obtain ⟨i, k, x, e1, e2, e3, e4, e5, e6, e7⟩ := hlk b y g1
              obtain ⟨q1, q2, q3, q4, q5, q6⟩ := renBlk_some e6
              rw [e7]
              exact .inr ⟨k, x, e3, e4, by rw [← q2]; exact g2, rfl⟩
            · intro b b' y y' g1 g2 g1' g2' e
              obtain ⟨i, k, x, e1, e2, e3, e4, e5, e6, e7⟩ := hlk b y g1
              obtain ⟨i', k', x', e1', e2', e3', e4', e5', e6', e7'⟩ := hlk b' y' g1'
              rw [e7, e7'] at e
              have hkk : k = k' := h.inj k k' x x' e4 (by rw [← (renBlk_some e6).2.1]; exact g2) e4' (by rw [← (renBlk_some e6').2.1]; exact g2') e
              subst hkk
              rw [e1, e1', nodup_get hnd e2 e2']
            · intro b y g1 g2
              obtain ⟨i, k, x, e1, e2, e3, e4, e5, e6, e7⟩ := hlk b y g1
              obtain ⟨q1, q2, q3, q4, q5, q6⟩ := renBlk_some e6
              obtain ⟨cells, t, lo, hi, j1, j2, j3, j4⟩ := (f.wr.blk k x (by rw [hlookF k e3]; exact e4) (by rw [← q2]; exact g2)).here
              rw [f.w, f.R] at j1
              refine ⟨cells, t, lo, hi, by rw [e7]; exact j1, j2, fun hk => ?_, fun hk => ?_⟩
              · exact mapO_renD_content (fun a a' v _ _ hv hr => renD_ok hren hv hr) (q6 (q2 ▸ hk)) (j3 (q2 ▸ hk))
              · obtain ⟨j5, j6⟩ := j4 (q2 ▸ hk)
                rw [q4, q5 (q2 ▸ hk)]
                exact ⟨j5, fun k a hk => let ⟨v, v1, v2⟩ := j6 k a hk; ⟨v, v1, hren.pv v2⟩⟩
          refine ⟨cF, cc, ⟨f, rfl, rfl, hR, hwr, hnd, hlen, hapart, fun i k hk => ?_⟩, ?_⟩
          · obtain ⟨x, y, g1, g2, g3⟩ := hblk i k hk
            obtain ⟨q1, q2, q3, q4, q5, q6⟩ := renBlk_some g3
            exact ⟨x, y, g1, g2, q1, q2, q3, q4, q5⟩
          · exact (mapO_ok (c := cF) (c' := cc) (p := fun a => a.cells.all AV.okC = true) (fun a a' v hv hr => renA_ok hren hv hr) h2 hva).1
        · cases hr

end
end Go.Ab
