/- A part of the proof: an evaluator of code on values and its soundness. -/
import Derived.Test.YtlomiepgghlhbaaAbConv
import Derived.Recover
import Derived.Tactics
set_option linter.unusedVariables false
set_option linter.unusedSimpArgs false
/- Calls: what is handed in, what comes back. -/
namespace Go.Ab
open Go

theorem look_app {α : Type} (a b : List (Nat × α)) (i : Nat) : look (a ++ b) i = match look a i with | some x => some x | none => look b i := by
  induction a with
  | nil => rfl
  | cons h t ih =>
    obtain ⟨j, x⟩ := h
    rw [List.cons_append, look_cons, look_cons]
    by_cases e : j = i
    · simp [e]
    · simp [e, ih]

theorem look_withKeys (base : Nat) : ∀ (i0 : Nat) (l : List Blk) (b : Nat), look (withKeys base i0 l) b = if base + i0 ≤ b then l[b - (base + i0)]? else none
  | _, [], b => by simp [withKeys, look]
  | i0, x :: r, b => by
    simp only [withKeys, look_cons]
    rw [look_withKeys base (i0 + 1) r b]
    by_cases e : base + i0 = b
    · subst e; simp
    · rw [if_neg e]
      by_cases hle : base + i0 ≤ b
      · have h1 : base + (i0 + 1) ≤ b := by omega
        have h2 : b - (base + i0) = (b - (base + (i0 + 1))) + 1 := by omega
        rw [if_pos h1, if_pos hle, h2, List.getElem?_cons_succ]
      · rw [if_neg hle, if_neg (by omega)]

theorem idx_some : ∀ {ks : List Nat} {b i j : Nat}, idx? ks b i = some j → i ≤ j ∧ ks[j - i]? = some b
  | [], b, i, j, h => by simp [idx?] at h
  | x :: r, b, i, j, h => by
    simp only [idx?] at h
    split at h
    · rename_i e; cases h; subst e; simp
    · obtain ⟨h1, h2⟩ := idx_some h
      refine ⟨by omega, ?_⟩
      have : j - i = (j - (i + 1)) + 1 := by omega
      rw [this, List.getElem?_cons_succ]; exact h2

theorem mapN_get {α : Type} {f : Nat → Option α} : ∀ {l : List Nat} {r : List α}, mapN f l = some r → r.length = l.length ∧ ∀ (i k : Nat), l[i]? = some k → ∃ x, f k = some x ∧ r[i]? = some x
  | [], r, h => by simp [mapN] at h; subst h; simp
  | a :: l, r, h => by
    simp only [mapN] at h
    split at h
    · rename_i b hb
      split at h
      · rename_i bs hbs
        cases h
        obtain ⟨h1, h2⟩ := mapN_get hbs
        refine ⟨by simp [h1], fun i k hk => ?_⟩
        cases i with
        | zero => simp at hk; subst hk; exact ⟨b, hb, rfl⟩
        | succ i => exact h2 i k (by simpa using hk)
      · cases h
    · cases h

theorem mapO_get {α β : Type} {f : α → Option β} : ∀ {l : List α} {r : List β}, mapO f l = some r → r.length = l.length ∧ ∀ (i : Nat) b, r[i]? = some b → ∃ a, l[i]? = some a ∧ f a = some b
  | [], r, h => by simp [mapO] at h; subst h; simp
  | a :: l, r, h => by
    simp only [mapO] at h
    split at h
    · rename_i b hb
      split at h
      · rename_i bs hbs
        cases h
        obtain ⟨h1, h2⟩ := mapO_get hbs
        refine ⟨by simp [h1], fun i x hx => ?_⟩
        cases i with
        | zero => simp at hx; subst hx; exact ⟨a, rfl, hb⟩
        | succ i => exact h2 i x (by simpa using hx)
      · cases h
    · cases h

theorem addNew_nodup : ∀ (l acc : List Nat), acc.Nodup → (addNew acc l).Nodup
  | [], acc, h => h
  | x :: r, acc, h => by
    simp only [addNew]
    split
    · exact addNew_nodup r acc h
    · rename_i hx
      refine addNew_nodup r _ ?_
      rw [List.nodup_append]
      refine ⟨h, by simp, fun a ha b hb => ?_⟩
      simp at hb
      subst hb
      rintro rfl
      exact hx (by simpa using ha)

theorem closeR_nodup (bs : List (Nat × Blk)) : ∀ (n : Nat) (l : List Nat), l.Nodup → (closeR bs n l).Nodup
  | 0, _, h => h
  | n + 1, l, h => closeR_nodup bs n _ (addNew_nodup _ l h)

theorem nodup_get {ks : List Nat} (h : ks.Nodup) {i j k : Nat} (h1 : ks[i]? = some k) (h2 : ks[j]? = some k) : i = j := by
  obtain ⟨l1, e1⟩ := List.getElem?_eq_some_iff.1 h1
  obtain ⟨l2, e2⟩ := List.getElem?_eq_some_iff.1 h2
  rw [List.Nodup, List.pairwise_iff_getElem] at h
  rcases Nat.lt_trichotomy i j with hlt | he | hlt
  · exact absurd (e1.trans e2.symm) (h i j l1 l2 hlt)
  · exact he
  · exact absurd (e2.trans e1.symm) (h j i l2 l1 hlt)

/-- A block under other names. -/
theorem renBlk_some {m : Nat → Nat → Option Nm} {x y : Blk} (h : renBlk m x = some y) : y.v = 0 ∧ y.k = x.k ∧ y.fz = x.fz ∧ y.sz = x.sz ∧ (x.k = .row → y.es = x.es) ∧ (x.k = .box → mapO (renD m) x.es = some y.es) := by
  unfold renBlk at h
  split at h
  · rename_i e; cases h; exact ⟨rfl, e.symm, rfl, rfl, fun h => (by rw [e] at h; cases h), fun h => (by rw [e] at h; cases h)⟩
  · rename_i e; cases h; exact ⟨rfl, e.symm, rfl, rfl, fun _ => rfl, fun h => (by rw [e] at h; cases h)⟩
  · rename_i e
    split at h
    · rename_i es hes; cases h; exact ⟨rfl, e.symm, rfl, rfl, fun h => (by rw [e] at h; cases h), fun _ => hes⟩
    · cases h

theorem mapO_renD_content {c c' : Cx} {m : Nat → Nat → Option Nm} {es es' : List AV} {cells : Array Value}
    (hD : ∀ a a' v, a ∈ es → a.okC = true → V c a v → renD m a = some a' → V c' a' v ∧ a'.okC = true)
    (h : mapO (renD m) es = some es') (hc : Content c es cells) : Content c' es' cells := by
  intro k a' hk
  obtain ⟨_, g⟩ := mapO_get h
  obtain ⟨a, ha, hr⟩ := g k a' hk
  obtain ⟨h1, v, h2, h3⟩ := hc k a ha
  obtain ⟨g1, g2⟩ := hD a a' v (List.mem_of_getElem? ha) h1 h3 hr
  exact ⟨g2, v, h2, g1⟩

section
variable {P : Program} {w0 : World} {G X Lo : Nat → Prop} {c : Cx}

def Gk (c : Cx) (ks : List Nat) (i : Nat) : Prop := ∃ k x, k ∈ ks ∧ look c.S k = some x ∧ x.k ≠ .dead ∧ x.fz = false ∧ c.R k = i
def Lk (c : Cx) (ks : List Nat) (i : Nat) : Prop := ∃ k x, k ∈ ks ∧ look c.S k = some x ∧ x.k ≠ .dead ∧ c.R k = i
def Xk (X : Nat → Prop) (cF : Cx) (ks : List Nat) (i : Nat) : Prop := X i ∨ ∃ b x, b ∉ ks ∧ look cF.S b = some x ∧ x.k ≠ .dead ∧ x.fz = false ∧ cF.R b = i

theorem args_pure (h : WR w0 G X Lo c) {byref : Bool} {l : List Nat} {cF : Cx} (f : FrzTo w0 G X Lo c cF l) {a a' : AV} {v : Value}
    (hl : ∀ b ∈ argRows byref a, b ∈ l) (hv : V c a v) (hr : argOf c.S byref a = some a') : V cF a' v := by
  unfold argOf at hr
  split at hr
  · cases hr; exact hv.mono f.le
  · rename_i hb
    have hl' : ∀ b ∈ rowsA a, b ∈ l := by
      intro b hb'
      apply hl
      unfold argRows
      rw [if_neg hb]; exact hb'
    split at hr
    · cases hr; exact hv.mono f.le
    · cases hr; exact hv.mono f.le
    · exact .pure (pureA_ok h f hl' hv hr).1

theorem argsList_pure (h : WR w0 G X Lo c) {byref : Bool} {l : List Nat} {cF : Cx} (f : FrzTo w0 G X Lo c cF l) : ∀ {as rs : List AV} {vs : List Value},
    (∀ b ∈ as.flatMap (argRows byref), b ∈ l) → VL c as vs → mapO (argOf c.S byref) as = some rs → VL cF rs vs
  | [], rs, vs, _, hv, hr => by
    simp [mapO] at hr; subst hr
    have : vs = [] := List.eq_nil_of_length_eq_zero (by simpa using hv.1.symm)
    subst this
    exact VL.nil
  | a :: as, rs, vs, hl, hv, hr => by
    obtain ⟨v, r, rfl, h1, h2⟩ := VL.of_cons hv
    simp only [mapO] at hr
    split at hr
    · rename_i b hb
      split at hr
      · rename_i bs hbs
        cases hr
        refine VL.cons (args_pure h f (fun x hx => hl x ?_) h1 hb) (argsList_pure h f (fun x hx => hl x ?_) h2 hbs)
        · rw [List.flatMap_cons]; exact List.mem_append.2 (.inl hx)
        · rw [List.flatMap_cons]; exact List.mem_append.2 (.inr hx)
      · cases hr
    · cases hr

/-- What a callee sees. -/
structure Ent (c : Cx) (w0 : World) (G X Lo : Nat → Prop) (cF cc : Cx) (l ks : List Nat) (out : List Blk) : Prop where
  frz : FrzTo w0 G X Lo c cF l
  w : cc.w = c.w
  S : cc.S = outerSt out
  R : ∀ (i k : Nat), ks[i]? = some k → cc.R (outBase + i) = c.R k
  wr : WR c.w (Gk c ks) (Xk X cF ks) (Lk c ks) cc
  nodup : ks.Nodup
  len : out.length = ks.length
  apart : ∀ k ∈ ks, k ∉ l
  blk : ∀ (i k : Nat), ks[i]? = some k → ∃ x y, look c.S k = some x ∧ out[i]? = some y ∧ y.v = 0 ∧ y.k = x.k ∧ y.fz = x.fz ∧ y.sz = x.sz ∧ (x.k = .row → y.es = x.es)

theorem enter_ok (h : WR w0 G X Lo c) {args : List AV} {vs : List Value} (hv : VL c args vs) {byref : Bool} {args2 : List AV} {ks : List Nat} {out : List Blk}
    (hr : callIn c.S byref args = some (args2, ks, out)) :
    ∃ cF cc, Ent c w0 G X Lo cF cc (args.flatMap (argRows byref)) ks out ∧ VL cc args2 vs := by
  unfold callIn at hr
  split at hr
  · cases hr
  · rename_i args1 h1
    dsimp only at hr
    split at hr
    · cases hr
    · rename_i args2' h2
      split at hr
      · cases hr
      · rename_i out' h3
        split at hr
        · rename_i hap
          cases hr
          generalize hks : closeR c.S 3 (addNew [] (args1.flatMap refsA)) = ks at *
          obtain ⟨cF, f⟩ := freezeTo h (args.flatMap (argRows byref))
          have hnd : ks.Nodup := by rw [← hks]; exact closeR_nodup _ _ _ (addNew_nodup _ _ List.nodup_nil)
          have hva : VL cF args1 vs := argsList_pure h f (fun _ hb => hb) hv h1
          obtain ⟨hlen, hget⟩ := mapN_get h3
          have hapart : ∀ k ∈ ks, k ∉ args.flatMap (argRows byref) := fun k hk hk' => by
            have := List.all_eq_true.1 hap k hk'
            simp [hk] at this
          have hlookF : ∀ k ∈ ks, look cF.S k = look c.S k := fun k hk => by
            rw [f.S, look_freeze]
            cases look c.S k with
            | none => rfl
            | some x => simp [hapart k hk]
          have hblk : ∀ (i k : Nat), ks[i]? = some k → ∃ x y, look c.S k = some x ∧ out[i]? = some y ∧ renBlk (nameM c.S ks outBase) x = some y := by
            intro i k hk
            obtain ⟨y, hy, hy'⟩ := hget i k hk
            unfold renAt at hy
            split at hy
            · rename_i x hx; exact ⟨x, y, hx, hy', hy⟩
            · cases hy
          let R' : Nat → Nat := fun b => match ks[b - outBase]? with | some k => c.R k | none => 0
          let cc : Cx := { w := c.w, S := outerSt out, R := R', F := fOf (Xk X cF ks) R' (outerSt out) }
          have hR : ∀ (i k : Nat), ks[i]? = some k → cc.R (outBase + i) = c.R k := by
            intro i k hk
            show R' _ = _
            simp only [R', Nat.add_sub_cancel_left, hk]
          have hlk : ∀ b y, look cc.S b = some y → ∃ i k x, b = outBase + i ∧ ks[i]? = some k ∧ k ∈ ks ∧ look c.S k = some x ∧ out[i]? = some y ∧ renBlk (nameM c.S ks outBase) x = some y ∧ cc.R b = c.R k := by
            intro b y hb
            have hb' : look (withKeys outBase 0 out) b = some y := hb
            rw [look_withKeys] at hb'
            split at hb'
            · rename_i hle
              have hlt := (List.getElem?_eq_some_iff.1 hb').1
              have hk : ks[b - (outBase + 0)]? = some (ks[b - (outBase + 0)]'(by omega)) := List.getElem?_eq_getElem _
              obtain ⟨x, y', g1, g2, g3⟩ := hblk _ _ hk
              have : y' = y := Option.some.inj (g2.symm.trans hb')
              subst this
              refine ⟨b - (outBase + 0), _, x, by omega, hk, List.mem_of_getElem? hk, g1, g2, g3, ?_⟩
              have e : outBase + (b - (outBase + 0)) = b := by omega
              have := hR _ _ hk
              rw [e] at this
              exact this
            · cases hb'
          have hFsub : ∀ b, cc.F b → cF.F b := by
            intro b hb
            rw [f.wr.hF]
            rcases hb with (hx | ⟨b', x, g1, g2, g3, g4, g5⟩) | ⟨b', y, g1, g2, g3, g4⟩
            · exact .inl hx
            · exact .inr ⟨b', x, g2, g3, g4, g5⟩
            · obtain ⟨i, k, x, e1, e2, e3, e4, e5, e6, e7⟩ := hlk b' y g1
              obtain ⟨q1, q2, q3, q4, q5, q6⟩ := renBlk_some e6
              have g4' : cc.R b' = b := g4
              exact .inr ⟨k, x, by rw [hlookF k e3]; exact e4, by rw [← q2]; exact g2, by rw [← q3]; exact g3, by rw [f.R, ← e7]; exact g4'⟩
          have hren : Ren cF cc (nameM c.S ks outBase) := by
            refine ⟨by rw [f.w]; exact Nat.le_refl _, fun b _ hb hb' => hb (hFsub b hb'), fun b _ _ => by rw [f.w], fun b v n hn => ?_⟩
            unfold nameM at hn
            split at hn
            · rename_i x hx
              split at hn
              · rename_i i hi
                cases hn
                obtain ⟨k1, k2, k3⟩ := ldBlk_some hx
                obtain ⟨_, hi2⟩ := idx_some hi
                have hi2' : ks[i]? = some b := by simpa using hi2
                have hmem := List.mem_of_getElem? hi2'
                obtain ⟨x', y, g1, g2, g3⟩ := hblk i b hi2'
                have : x' = x := Option.some.inj (g1.symm.trans k1)
                subst this
                obtain ⟨q1, q2, q3, q4, q5, q6⟩ := renBlk_some g3
                refine ⟨x', by rw [hlookF b hmem]; exact k1, k2, y, ?_, Nat.zero_le _, fun _ _ => ⟨q2, by rw [hR i b hi2', f.R], q4, fun hrow => by rw [q5 hrow], fun cells t fr hc => ⟨cells, t, fr, ?_, rfl⟩⟩⟩
                · show look (withKeys outBase 0 out) _ = _
                  rw [look_withKeys, if_pos (by omega)]
                  rw [show outBase + i - (outBase + 0) = i by omega]; exact g2
                · rw [hR i b hi2', ← f.R]
                  show c.w.heap[_]? = _
                  rw [← f.w]; exact hc
              · cases hn
            · cases hn
          have hwr : WR c.w (Gk c ks) (Xk X cF ks) (Lk c ks) cc := by
            refine ⟨Nat.le_refl _, fun _ _ _ => rfl, rfl, rfl, ?_, ?_, ?_, ?_, ?_, fun _ => Iff.rfl⟩
            · rintro i (hx | ⟨b, x, g1, g2, g3, g4, g5⟩)
              · exact Nat.lt_of_lt_of_le (h.xs i hx) h.size
              · rw [← g5, ← f.w]; exact (f.wr.blk b x g2 g3).lt
            · intro b y g1 g2
              obtain ⟨i, k, x, e1, e2, e3, e4, e5, e6, e7⟩ := hlk b y g1
              obtain ⟨q1, q2, q3, q4, q5, q6⟩ := renBlk_some e6
              rw [e7]
              refine ⟨fun hf => .inr ⟨k, x, e3, e4, by rw [← q2]; exact g2, by rw [← q3]; exact hf, rfl⟩, ?_⟩
              rintro (hx | ⟨b', x', j1, j2, j3, j4, j5⟩)
              · exact (h.own k x e4 (by rw [← q2]; exact g2)).2 hx
              · have : b' = k := f.wr.inj b' k x' x j2 j3 (by rw [hlookF k e3]; exact e4) (by rw [← q2]; exact g2) (by rw [j5, f.R])
                exact j1 (this ▸ e3)
            · intro b y g1 g2
              obtain ⟨i, k, x, e1, e2, e3, e4, e5, e6, e7⟩ := hlk b y g1
              obtain ⟨q1, q2, q3, q4, q5, q6⟩ := renBlk_some e6
              rw [e7]
              exact .inr ⟨k, x, e3, e4, by rw [← q2]; exact g2, rfl⟩
            · intro b b' y y' g1 g2 g1' g2' e
              obtain ⟨i, k, x, e1, e2, e3, e4, e5, e6, e7⟩ := hlk b y g1
              obtain ⟨i', k', x', e1', e2', e3', e4', e5', e6', e7'⟩ := hlk b' y' g1'
              rw [e7, e7'] at e
              have hkk : k = k' := h.inj k k' x x' e4 (by rw [← (renBlk_some e6).2.1]; exact g2) e4' (by rw [← (renBlk_some e6').2.1]; exact g2') e
              subst hkk
              rw [e1, e1', nodup_get hnd e2 e2']
            · intro b y g1 g2
              obtain ⟨i, k, x, e1, e2, e3, e4, e5, e6, e7⟩ := hlk b y g1
              obtain ⟨q1, q2, q3, q4, q5, q6⟩ := renBlk_some e6
              obtain ⟨cells, t, lo, hi, j1, j2, j3, j4⟩ := (f.wr.blk k x (by rw [hlookF k e3]; exact e4) (by rw [← q2]; exact g2)).here
              rw [f.w, f.R] at j1
              refine ⟨cells, t, lo, hi, by rw [e7]; exact j1, by rw [q4]; exact j2, fun hk => ?_, fun hk => ?_⟩
              · exact mapO_renD_content (fun a a' v _ _ hv hr => renD_ok hren hv hr) (q6 (q2 ▸ hk)) (j3 (q2 ▸ hk))
              · obtain ⟨j5, j6⟩ := j4 (q2 ▸ hk)
                rw [q4, q5 (q2 ▸ hk)]
                exact ⟨j5, fun k a hk => let ⟨v, v1, v2⟩ := j6 k a hk; ⟨v, v1, hren.pv v2⟩⟩
          refine ⟨cF, cc, ⟨f, rfl, rfl, hR, hwr, hnd, hlen, hapart, fun i k hk => ?_⟩, ?_⟩
          · obtain ⟨x, y, g1, g2, g3⟩ := hblk i k hk
            obtain ⟨q1, q2, q3, q4, q5, q6⟩ := renBlk_some g3
            exact ⟨x, y, g1, g2, q1, q2, q3, q4, q5⟩
          · exact (mapO_ok (c := cF) (c' := cc) (p := fun a => a.cells.all AV.okC = true) (fun a a' v hv hr => renA_ok hren hv hr) h2 hva).1
        · cases hr

end
end Go.Ab
/- Calls: what comes back. -/
namespace Go.Ab
open Go

theorem backOut_look {bs : List (Nat × Blk)} {m : Nat → Nat → Option Nm} : ∀ {ks : List Nat} {xs : List Blk} {o : List (Nat × Blk)}, backOut bs m ks xs = some o → ks.Nodup →
    xs.length = ks.length ∧ (∀ b, b ∉ ks → look o b = none) ∧ ∀ (i k : Nat), ks[i]? = some k → ∃ x y z, xs[i]? = some x ∧ look bs k = some y ∧ renBlk m x = some z ∧ look o k = some { z with v := y.v }
  | [], [], o, h, _ => by simp [backOut] at h; subst h; simp [look]
  | [], _ :: _, o, h, _ => by simp [backOut] at h
  | _ :: _, [], o, h, _ => by simp [backOut] at h
  | k :: ks, x :: xs, o, h, hn => by
    simp only [backOut] at h
    split at h
    · rename_i y hy
      split at h
      · rename_i z hz
        split at h
        · rename_i r hr
          cases h
          rw [List.nodup_cons] at hn
          obtain ⟨h1, h2, h3⟩ := backOut_look hr hn.2
          refine ⟨by simp [h1], fun b hb => ?_, fun i k' hk => ?_⟩
          · simp at hb
            rw [look_cons, if_neg (fun e => hb.1 e.symm)]
            exact h2 b hb.2
          · cases i with
            | zero => simp at hk; subst hk; exact ⟨x, y, z, rfl, hy, hz, by rw [look_cons, if_pos rfl]⟩
            | succ i =>
              have hk' : ks[i]? = some k' := by simpa using hk
              obtain ⟨x', y', z', g1, g2, g3, g4⟩ := h3 i k' hk'
              refine ⟨x', y', z', by simpa using g1, g2, g3, ?_⟩
              rw [look_cons, if_neg ?_]; exact g4
              rintro rfl
              exact hn.1 (List.mem_of_getElem? hk')
        · cases h
      · cases h
    · cases h

theorem backNew_look {bs : List (Nat × Blk)} {m : Nat → Nat → Option Nm} {d : Nat} : ∀ {j : Nat} {xs : List Blk} {n : List (Nat × Blk)}, backNew bs m d j xs = some n →
    (∀ b x, look n b = some x → ∃ i y z, b = 16 * d + j + i ∧ xs[i]? = some y ∧ renBlk m y = some z ∧ x = { z with v := nextV bs b }) ∧
    ∀ (i : Nat) y, xs[i]? = some y → ∃ z, renBlk m y = some z ∧ look n (16 * d + j + i) = some { z with v := nextV bs (16 * d + j + i) }
  | j, [], n, h => by simp [backNew] at h; subst h; simp [look]
  | j, x :: xs, n, h => by
    simp only [backNew] at h
    split at h
    · rename_i z hz
      split at h
      · rename_i r hr
        cases h
        obtain ⟨h1, h2⟩ := backNew_look hr
        refine ⟨fun b y hb => ?_, fun i y hi => ?_⟩
        · rw [look_cons] at hb
          split at hb
          · rename_i e; cases hb; exact ⟨0, x, z, by omega, rfl, hz, by rw [e]⟩
          · obtain ⟨i, y', z', g1, g2, g3, g4⟩ := h1 b y hb
            exact ⟨i + 1, y', z', by omega, by simpa using g2, g3, g4⟩
        · cases i with
          | zero => simp at hi; subst hi; exact ⟨z, hz, by rw [look_cons, if_pos (by omega)]; rfl⟩
          | succ i =>
            obtain ⟨z', g1, g2⟩ := h2 i y (by simpa using hi)
            refine ⟨z', g1, ?_⟩
            rw [look_cons, if_neg (by omega)]
            rw [show 16 * d + j + (i + 1) = 16 * d + (j + 1) + i by omega]; exact g2
      · cases h
    · cases h

section
variable {P : Program} {w0 : World} {G X Lo : Nat → Prop} {c : Cx}

/-- Nothing that lies anywhere. -/
theorem noSlcC_PV {a : AV} {v : Value} (hs : a.noSlcC = true) {w w' : World} {F F' : Nat → Prop} (h : PV w F a v) : PV w' F' a v := by
  cases h with
  | undef => cases hs
  | skp => cases hs
  | bool => exact .bool _
  | int => exact .int _ _
  | str => exact .str _
  | agg => cases hs
  | tup => cases hs
  | slc => cases hs
  | pnil => exact .pnil
  | fnil => exact .fnil
  | inil => exact .inil
  | fn => cases hs
  | iface t a v hs' h => exact .iface t a v hs' (simple_V hs' h)

theorem noSlcC_V {c c' : Cx} {a : AV} {v : Value} (hs : a.noSlcC = true) (h : V c a v) : V c' a v := by
  cases h with
  | pure h => exact .pure (noSlcC_PV hs h)
  | agg => cases hs
  | tup => cases hs
  | sref => cases hs
  | ptr => cases hs
  | eptr => cases hs
  | fn => cases hs

theorem noSlcA_V {c c' : Cx} {a : AV} {v : Value} (hs : a.noSlcA = true) (h : V c a v) : V c' a v := by
  cases a with
  | agg cs =>
    obtain ⟨vs, rfl, h1, h2, h3⟩ := h.agg_inv
    exact .agg cs vs h1 h2 (fun i a u g1 g2 => noSlcC_V (List.all_eq_true.1 hs a (List.mem_of_getElem? g1)) (h3 i a u g1 g2))
  | _ => exact noSlcC_V hs h

theorem noSlc_V {c c' : Cx} {a : AV} {v : Value} (hs : a.noSlc = true) (h : V c a v) : V c' a v := by
  cases a with
  | tup cs =>
    obtain ⟨vs, rfl, h1, h3⟩ := h.tup_inv
    exact .tup cs vs h1 (fun i a u g1 g2 => noSlcA_V (List.all_eq_true.1 hs a (List.mem_of_getElem? g1)) (h3 i a u g1 g2))
  | _ => exact noSlcA_V hs h

theorem renD_noSlc {m : Nat → Nat → Option Nm} {a a' : AV} (hs : a.noSlcC = true) (h : renD m a = some a') : a' = a := by
  cases a <;> first | (cases hs; done) | skip
  · simpa [renD, renC, eq_comm] using h
  · simpa [renD, renC, eq_comm] using h
  · simpa [renD, renC, eq_comm] using h
  · simpa [renD, renC, eq_comm] using h
  · simpa [renD, renC, eq_comm] using h
  · rename_i t v
    simp only [renD, renC] at h
    split at h
    · cases h; rfl
    · cases h
  · simpa [renD, renC, eq_comm] using h

theorem mapO_id {f : AV → Option AV} : ∀ {l r : List AV}, mapO f l = some r → (∀ a ∈ l, ∀ b, f a = some b → b = a) → r = l
  | [], r, h, _ => by simp [mapO] at h; exact h
  | a :: l, r, h, hf => by
    simp only [mapO] at h
    split at h
    · rename_i b hb
      split at h
      · rename_i bs hbs
        cases h
        rw [hf a (by simp) b hb, mapO_id hbs (fun x hx => hf x (by simp [hx]))]
      · cases h
    · cases h

theorem renA_noSlc {m : Nat → Nat → Option Nm} {a a' : AV} (hs : a.noSlcA = true) (h : renA m a = some a') : a' = a := by
  unfold renA at h
  split at h
  · rename_i cs
    split at h
    · rename_i l hl
      cases h
      rw [mapO_id hl (fun x hx b hb => renD_noSlc (List.all_eq_true.1 hs x hx) hb)]
    · cases h
  · rename_i hna
    refine renD_noSlc ?_ h
    cases a <;> first | exact hs | exact absurd rfl (hna _)

theorem renT_noSlc {m : Nat → Nat → Option Nm} {a a' : AV} (hs : a.noSlc = true) (h : renT m a = some a') : a' = a := by
  unfold renT at h
  split at h
  · rename_i cs
    split at h
    · rename_i l hl
      cases h
      rw [mapO_id hl (fun x hx b hb => renA_noSlc (List.all_eq_true.1 hs x hx) hb)]
    · cases h
  · rename_i hna
    refine renA_noSlc ?_ h
    cases a <;> first | exact hs | exact absurd rfl (hna _)

theorem noSlcA_cells {a : AV} (hs : a.noSlcA = true) : ∀ x ∈ a.cells, x.noSlcC = true := by
  cases a with
  | agg cs => intro x hx; exact List.all_eq_true.1 hs x hx
  | _ => intro x hx; simp [AV.cells] at hx; subst hx; exact hs

theorem noSlcA_C {a : AV} (hs : a.noSlcA = true) (ho : a.okC = true) : a.noSlcC = true := by
  cases a <;> first | exact hs | cases ho

/-- What a call left, for the caller. -/
theorem back_ok (h : WR w0 G X Lo c) {cF cc c' : Cx} {l ks : List Nat} {out : List Blk} (E : Ent c w0 G X Lo cF cc l ks out) {r : Ret} {v : Value}
    (hS' : c'.S = outerSt r.out ++ withKeys newBase 0 r.new) (hW' : WR c.w (Gk c ks) (Xk X cF ks) (Lk c ks) c') (L' : Le cc c') (hv : V c' r.res v)
    {thaw : Bool} {d : Option Tmp} {res : Res} (hr : callOut c.S thaw d ks l r = some res) :
    ∃ c1 a ds, res = (if r.pan = true then Res.pan a ds else Res.val a ds) ∧ c1.w = c'.w ∧ c1.S = ds ++ c.S ∧ WR w0 G X Lo c1 ∧ Le c c1 ∧ V c1 a v := by
  unfold callOut at hr
  dsimp only at hr
  split at hr
  case isFalse => cases hr
  rename_i hchk
  obtain ⟨hol, hov, hnv⟩ := hchk
  generalize hfull : ((thaw || r.new.any fun x => decide (x.k = .box)) && d.isSome) = full at hr
  generalize hD : d.getD 0 = D at hr
  generalize hm : backM c.S ks r full D = m at hr
  generalize hcond : (r.res.noSlc && allNoSlc r.out && allNoSlc r.new) = cond at hr
  split at hr
  · cases hr
  rename_i res' hres
  split at hr
  · cases hr
  rename_i o ho
  split at hr
  · cases hr
  rename_i n hn
  obtain ⟨b1, b2, b3⟩ := backOut_look ho E.nodup
  have hov' : ∀ x ∈ r.out, x.v = 0 := fun x hx => by simpa using List.all_eq_true.1 hov x hx
  have hnv' : ∀ x ∈ r.new, x.v = 0 := fun x hx => by simpa using List.all_eq_true.1 hnv x hx
  have hnew : ∀ b x, look n b = some x → full = true ∧ ∃ i y z, b = 16 * D + i ∧ r.new[i]? = some y ∧ renBlk m y = some z ∧ x = { z with v := nextV c.S b } := by
    intro b x hb
    split at hn
    · rename_i hf
      split at hn
      · obtain ⟨g, _⟩ := backNew_look hn
        exact ⟨hf, by simpa using g b x hb⟩
      · cases hn
    · cases hn; simp [look] at hb
  have hnew2 : full = true → ∀ (i : Nat) y, r.new[i]? = some y → ∃ z, renBlk m y = some z ∧ look n (16 * D + i) = some { z with v := nextV c.S (16 * D + i) } := by
    intro hf i y hy
    rw [if_pos hf] at hn
    split at hn
    · obtain ⟨_, g⟩ := backNew_look hn
      simpa using g i y hy
    · cases hn
  -- the callee's blocks
  have hcout : ∀ (i : Nat) x, r.out[i]? = some x → look c'.S (outBase + i) = some x := by
    intro i x hx
    rw [hS', look_app]
    have : look (outerSt r.out) (outBase + i) = some x := by
      show look (withKeys outBase 0 r.out) _ = _
      rw [look_withKeys, if_pos (by omega), show outBase + i - (outBase + 0) = i by omega]; exact hx
    rw [this]
  have hcnew : ∀ (i : Nat) x, r.new[i]? = some x → look c'.S (newBase + i) = some x := by
    intro i x hx
    rw [hS', look_app]
    have : look (outerSt r.out) (newBase + i) = none := by
      show look (withKeys outBase 0 r.out) _ = _
      rw [look_withKeys, if_pos (by unfold newBase outBase; omega)]
      exact List.getElem?_eq_none (by unfold newBase outBase; omega)
    rw [this, look_withKeys, if_pos (by omega), show newBase + i - (newBase + 0) = i by omega]; exact hx
  have hO : ∀ (i k : Nat), ks[i]? = some k → ∃ x x' z, look c.S k = some x ∧ r.out[i]? = some x' ∧ x'.v = 0 ∧ look c'.S (outBase + i) = some x' ∧ renBlk m x' = some z ∧ look o k = some { z with v := x.v } ∧
      (x'.k ≠ .dead → x.k = x'.k ∧ c'.R (outBase + i) = c.R k ∧ x'.sz = x.sz ∧ (x.k = .row → x'.es.length = x.es.length) ∧ (x.fz = true → x'.fz = true) ∧
        ∀ cells t fr, c.w.heap[c.R k]? = some (.cells cells t fr) → ∃ cells' t' fr', c'.w.heap[c.R k]? = some (.cells cells' t' fr') ∧ cells'.size = cells.size) := by
    intro i k hk
    obtain ⟨x', x, z, g1, g2, g3, g4⟩ := b3 i k hk
    obtain ⟨x0, y0, e1, e2, e3, e4, e5, e6, e7⟩ := E.blk i k hk
    have : x0 = x := Option.some.inj (e1.symm.trans g2)
    subst this
    have hlc : look cc.S (outBase + i) = some y0 := by
      rw [E.S]
      show look (withKeys outBase 0 out) _ = _
      rw [look_withKeys, if_pos (by omega), show outBase + i - (outBase + 0) = i by omega]; exact e2
    obtain ⟨x2, f1, f2, f3⟩ := L'.hS _ _ hlc
    have h2 := hcout i x' g1
    have : x2 = x' := Option.some.inj (f1.symm.trans h2)
    subst this
    have hx0 := hov' x2 (List.mem_of_getElem? g1)
    refine ⟨x0, x2, z, g2, g1, hx0, h2, g3, g4, fun hd => ?_⟩
    obtain ⟨k1, k2, k3, k4, k5, k6⟩ := f3 (by omega) hd
    rw [E.R i k hk] at k2 k6
    refine ⟨by rw [← e4]; exact k1, k2, by rw [k3, e6], fun hrow => by rw [k4 (by rw [e4]; exact hrow), e7 hrow], fun hf => k5 (by rw [e5]; exact hf), fun cells t fr hc => ?_⟩
    rw [E.w, k2] at k6
    exact k6 cells t fr hc
  let R1 : Nat → Nat := fun b => match look n b with | some _ => c'.R (newBase + (b - 16 * D)) | none => c.R b
  have hR1n : ∀ b x, look n b = some x → R1 b = c'.R (newBase + (b - 16 * D)) := fun b x hb => by simp only [R1, hb]
  have hR1c : ∀ b, look n b = none → R1 b = c.R b := fun b hb => by simp only [R1, hb]
  generalize hfr : (if cond = true then [] else freeze c.S l) = fr at hr
  have hlS : ∀ b, look ((n ++ (o ++ fr)) ++ c.S) b = match look n b with | some x => some x | none => match look o b with | some x => some x | none => look (fr ++ c.S) b := by
    intro b
    rw [look_app, look_app, look_app]
    cases look n b with
    | some x => rfl
    | none =>
      cases look o b with
      | some x => rfl
      | none =>
        simp only
        rw [look_app]
  have hfrl : ∀ b, look (fr ++ c.S) b = (look c.S b).map fun x => if cond = false ∧ b ∈ l then { x with fz := true } else x := by
    intro b
    rw [← hfr]
    by_cases hc : cond = true
    · rw [if_pos hc]
      simp [hc]
    · rw [if_neg hc, look_freeze]
      have : cond = false := by simpa using hc
      simp [this]
  have hlO : ∀ b x, look o b = some x → ∃ i : Nat, ks[i]? = some b := by
    intro b x hb
    by_cases hk : b ∈ ks
    · exact List.getElem?_of_mem hk
    · rw [b2 b hk] at hb; cases hb
  have hcl : ∀ b x, look ((n ++ (o ++ fr)) ++ c.S) b = some x → x.k ≠ .dead →
      (∃ e y, look c'.S e = some y ∧ R1 b = c'.R e ∧ (y ∈ r.out ∨ y ∈ r.new) ∧ renBlk m y = some { x with v := 0 } ∧ ((newBase ≤ e ∧ b = 16 * D + (e - newBase) ∧ full = true) ∨ (outBase ≤ e ∧ e < newBase ∧ ks[e - outBase]? = some b))) ∨
      (b ∉ ks ∧ R1 b = c.R b ∧ ∃ x0, look c.S b = some x0 ∧ x.v = x0.v ∧ x.k = x0.k ∧ x.sz = x0.sz ∧ x.es = x0.es ∧ (x.fz = false → x0.fz = false) ∧ (cond = false → b ∈ l → x.fz = true)) := by
    intro b x hb hd
    rw [hlS] at hb
    cases hn1 : look n b with
    | some y =>
      rw [hn1] at hb
      cases hb
      obtain ⟨hf, i, y, z, g1, g2, g3, g4⟩ := hnew b x hn1
      refine .inl ⟨newBase + i, y, hcnew i y g2, ?_, .inr (List.mem_of_getElem? g2), ?_, .inl ⟨by omega, by omega, hf⟩⟩
      · rw [hR1n b x hn1, g1]; congr 1; omega
      · rw [g3, g4]
        have := (renBlk_some g3).1
        congr 1
        rw [← this]
    | none =>
      rw [hn1] at hb
      cases ho1 : look o b with
      | some y =>
        rw [ho1] at hb
        cases hb
        obtain ⟨i, hi⟩ := hlO b x ho1
        obtain ⟨x0, x', z, g1, g2, g3, g4, g5, g6, g7⟩ := hO i b hi
        have : x = { z with v := x0.v } := Option.some.inj (ho1.symm.trans g6)
        have hz := renBlk_some g5
        obtain ⟨k1, k2, _⟩ := g7 (by rw [← hz.2.1]; rw [this] at hd; exact hd)
        have hlt := (List.getElem?_eq_some_iff.1 g2).1
        refine .inl ⟨outBase + i, x', g4, ?_, .inl (List.mem_of_getElem? g2), ?_, .inr ⟨by omega, by unfold newBase outBase; omega, by rw [show outBase + i - outBase = i by omega]; exact hi⟩⟩
        · rw [hR1c b hn1, k2]
        · rw [g5, this]
          congr 1
          rw [← hz.1]
      | none =>
        rw [ho1] at hb
        simp only [hfrl] at hb
        have hk : b ∉ ks := by
          intro hk
          obtain ⟨i, hi⟩ := List.getElem?_of_mem hk
          obtain ⟨x0, x', z, g1, g2, g3, g4, g5, g6, g7⟩ := hO i b hi
          rw [ho1] at g6; cases g6
        cases hc1 : look c.S b with
        | none => rw [hc1] at hb; cases hb
        | some x0 =>
          rw [hc1] at hb
          simp only [Option.map_some] at hb
          have hb' := (Option.some.inj hb).symm
          refine .inr ⟨hk, hR1c b hn1, x0, rfl, ?_⟩
          by_cases hq : cond = false ∧ b ∈ l
          · rw [if_pos hq] at hb'
            subst hb'
            exact ⟨rfl, rfl, rfl, rfl, fun h => (by cases h), fun _ _ => rfl⟩
          · rw [if_neg hq] at hb'
            subst hb'
            exact ⟨rfl, rfl, rfl, rfl, id, fun h1 h2 => absurd ⟨h1, h2⟩ hq⟩
  have hlt : ∀ b x, look c.S b = some x → x.k ≠ .dead → c.R b < c.w.heap.size := fun b x h1 h2 => (h.blk b x h1 h2).lt
  have hnotG : ∀ b x, b ∉ ks → look c.S b = some x → x.k ≠ .dead → ¬ Gk c ks (c.R b) := by
    rintro b x hb hx hd ⟨k, y, g1, g2, g3, g4, g5⟩
    exact hb ((h.inj k b y x g2 g3 hx hd g5) ▸ g1)
  have hnotL : ∀ b x, b ∉ ks → look c.S b = some x → x.k ≠ .dead → ¬ Lk c ks (c.R b) := by
    rintro b x hb hx hd ⟨k, y, g1, g2, g3, g5⟩
    exact hb ((h.inj k b y x g2 g3 hx hd g5) ▸ g1)
  let c1 : Cx := { w := c'.w, S := (n ++ (o ++ fr)) ++ c.S, R := R1, F := fOf X R1 ((n ++ (o ++ fr)) ++ c.S) }
  have hGF : ∀ i, Gk c ks i → c.F i := by
    rintro i ⟨k, x, g1, g2, g3, g4, g5⟩
    exact (h.hF i).2 (.inr ⟨k, x, g2, g3, g4, g5⟩)
  have L : Le c c1 := by
    refine ⟨hW'.size, fun i hi hf hf' => ?_, fun i hi hf => hW'.kept i hi (fun hg => hf (hGF i hg)), fun b x hx => ?_⟩
    · rcases hf' with hx | ⟨b, x, g1, g2, g3, g4⟩
      · exact hf ((h.hF i).2 (.inl hx))
      · rcases hcl b x g1 g2 with ⟨e, y, k1, k2, _, k3, _⟩ | ⟨k1, k2, x0, k3, _, k5, _, _, k8, _⟩
        · obtain ⟨_, q2, q3, _⟩ := renBlk_some k3
          rcases (hW'.own e y k1 (by rw [← q2]; exact g2)).1 (by rw [← q3]; exact g3) with j1 | j1
          · have : R1 b = i := g4
            rw [k2] at this
            omega
          · refine hf (hGF i ?_)
            rw [← g4, k2]; exact j1
        · refine hf ((h.hF i).2 (.inr ⟨b, x0, k3, by rw [← k5]; exact g2, k8 g3, ?_⟩))
          rw [← k2]; exact g4
    · cases hn1 : look n b with
      | some y =>
        obtain ⟨hf, i, y', z, g1, g2, g3, g4⟩ := hnew b y hn1
        have hyv : y.v = x.v + 1 := by rw [g4]; simp only [nextV, hx]
        exact ⟨y, by show look _ b = _; rw [hlS, hn1], by omega, fun e => by omega⟩
      | none =>
        by_cases hk : b ∈ ks
        · obtain ⟨i, hi⟩ := List.getElem?_of_mem hk
          obtain ⟨x0, x', z, g1, g2, g3, g4, g5, g6, g7⟩ := hO i b hi
          have : x0 = x := Option.some.inj (g1.symm.trans hx)
          subst this
          obtain ⟨q1, q2, q3, q4, q5, q6⟩ := renBlk_some g5
          refine ⟨{ z with v := x0.v }, by show look _ b = _; rw [hlS, hn1, g6], Nat.le_refl _, fun _ hd => ?_⟩
          obtain ⟨k1, k2, k3, k4, k5, k6⟩ := g7 (by rw [← q2]; exact hd)
          refine ⟨k1.trans q2.symm, hR1c b hn1, q4.trans k3, fun hrow => ?_, fun hf => ?_, fun cells t fr hc => ?_⟩
          · show z.es.length = _
            rw [q5 (by rw [← k1]; exact hrow), k4 hrow]
          · show z.fz = _
            rw [q3]; exact k5 hf
          · show ∃ cells' t' fr', c'.w.heap[R1 b]? = _ ∧ _
            rw [hR1c b hn1]; exact k6 cells t fr hc
        · refine ⟨if cond = false ∧ b ∈ l then { x with fz := true } else x, ?_, ?_, fun _ hd => ?_⟩
          · show look _ b = _
            rw [hlS, hn1, b2 b hk]
            simp only [hfrl, hx, Option.map_some]
          · split <;> exact Nat.le_refl _
          · have hd' : x.k ≠ .dead := by
              intro e; apply hd; split <;> exact e
            refine ⟨by split <;> rfl, hR1c b hn1, by split <;> rfl, fun _ => by split <;> rfl, fun hf => by split <;> first | rfl | exact hf, fun cells t fr hc => ⟨cells, t, fr, ?_, rfl⟩⟩
            show c'.w.heap[R1 b]? = _
            rw [hR1c b hn1, hW'.kept _ (hlt b x hx hd') (hnotG b x hk hx hd')]; exact hc
  have hlookn : ∀ b x, look n b = some x → look c1.S b = some x := fun b x hb => by show look _ b = _; rw [hlS, hb]
  have hK : ∀ b, outBase ≤ b → newBase ≤ b → b < newBase → False := fun b _ h1 h2 => by omega
  -- a block of the callee is no other block of the caller
  have hclash : ∀ e y b x0, look c'.S e = some y → y.k ≠ .dead → b ∉ ks → look c.S b = some x0 → x0.k ≠ .dead → c'.R e ≠ c.R b := by
    intro e y b x0 g1 g2 g3 g4 g5 ee
    rcases hW'.low e y g1 g2 with j | j
    · have := hlt b x0 g4 g5
      omega
    · exact hnotL b x0 g3 g4 g5 (ee ▸ j)
  have hren : cond = false → Ren c' c1 m := by
    intro hc0
    have hF' : ∀ b, c1.F b → c'.F b := by
      rintro b (hx | ⟨b', x, g1, g2, g3, g4⟩)
      · exact (hW'.hF b).2 (.inl (.inl hx))
      · rcases hcl b' x g1 g2 with ⟨e, y, k1, k2, _, k3, _⟩ | ⟨k1, k2, x0, k3, _, k5, _, _, k8, k9⟩
        · obtain ⟨_, q2, q3, _⟩ := renBlk_some k3
          exact (hW'.hF b).2 (.inr ⟨e, y, k1, by rw [← q2]; exact g2, by rw [← q3]; exact g3, by rw [← k2]; exact g4⟩)
        · have hnl : b' ∉ l := fun hl => by rw [k9 hc0 hl] at g3; cases g3
          refine (hW'.hF b).2 (.inl (.inr ⟨b', x0, k1, ?_, by rw [← k5]; exact g2, k8 g3, by rw [E.frz.R, ← k2]; exact g4⟩))
          rw [E.frz.S, look_freeze, k3]
          simp [hnl]
    have hpv : ∀ {a v}, PV c'.w c'.F a v → PV c1.w c1.F a v := fun hp => hp.mono (Nat.le_refl _) (fun b _ hf hf' => hf (hF' b hf')) (fun _ _ _ => rfl)
    refine ⟨Nat.le_refl _, fun b _ hf hf' => hf (hF' b hf'), fun _ _ _ => rfl, fun b w nm hnm => ?_⟩
    rw [← hm] at hnm
    unfold backM at hnm
    split at hnm
    · cases hnm
    rename_i hb1
    split at hnm
    · cases hnm
    rename_i hw
    have hw0 : w = 0 := by omega
    subst hw0
    split at hnm
    · rename_i hb2
      split at hnm
      · rename_i x k hx hk
        split at hnm
        · cases hnm
        rename_i hd
        split at hnm
        · rename_i y hy
          cases hnm
          obtain ⟨x0, x', z, g1, g2, g3, g4, g5, g6, g7⟩ := hO _ k hk
          have e1 : x0 = y := Option.some.inj (g1.symm.trans hy)
          have e2 : x' = x := Option.some.inj (g2.symm.trans hx)
          subst e1; subst e2
          have eb : outBase + (b - outBase) = b := by omega
          rw [eb] at g4 g7
          obtain ⟨q1, q2, q3, q4, q5, q6⟩ := renBlk_some g5
          obtain ⟨k1, k2, k3, k4, k5, k6⟩ := g7 hd
          refine ⟨x', g4, g3, ?_⟩
          cases hn1 : look n k with
          | some y' =>
            obtain ⟨_, i, y2, z2, j1, j2, j3, j4⟩ := hnew k y' hn1
            have hyv : y'.v = x0.v + 1 := by rw [j4]; simp only [nextV, hy]
            exact ⟨y', hlookn k y' hn1, by omega, fun e => by omega⟩
          | none =>
            refine ⟨{ z with v := x0.v }, by show look _ k = _; rw [hlS, hn1, g6], Nat.le_refl _, fun _ hd' => ⟨q2, ?_, q4, fun hrow => by show z.es.length = _; rw [q5 hrow], fun cells t fr hc => ⟨cells, t, fr, ?_, rfl⟩⟩⟩
            · show R1 k = _
              rw [hR1c k hn1, k2]
            · show c'.w.heap[R1 k]? = _
              rw [hR1c k hn1, ← k2]; exact hc
        · cases hnm
      · cases hnm
    · rename_i hb2
      split at hnm
      · rename_i x hx
        have eb : newBase + (b - newBase) = b := by omega
        have hlx := hcnew _ x hx
        rw [eb] at hlx
        have hx0 := hnv' x (List.mem_of_getElem? hx)
        have hfl : full = true → ∃ z, renBlk m x = some z ∧ NmOk c' c1 b 0 (.key (16 * D + (b - newBase)) (nextV c.S (16 * D + (b - newBase)))) := by
          intro hf
          obtain ⟨z, g1, g2⟩ := hnew2 hf _ x hx
          obtain ⟨q1, q2, q3, q4, q5, q6⟩ := renBlk_some g1
          have hRn : R1 (16 * D + (b - newBase)) = c'.R b := by rw [hR1n _ _ g2, show newBase + (16 * D + (b - newBase) - 16 * D) = b by omega]
          refine ⟨z, g1, x, hlx, hx0, _, hlookn _ _ g2, Nat.le_refl _, fun _ _ => ⟨q2, hRn, q4, fun hrow => by show z.es.length = _; rw [q5 hrow], fun cells t fr hc => ⟨cells, t, fr, ?_, rfl⟩⟩⟩
          show c'.w.heap[R1 _]? = _
          rw [hRn]; exact hc
        split at hnm
        · cases hnm
        · split at hnm
          · rename_i hf
            cases hnm
            obtain ⟨z, _, g⟩ := hfl hf
            exact g
          · cases hnm
        · rename_i hk
          split at hnm
          · rename_i hf
            cases hnm
            obtain ⟨z, _, g⟩ := hfl hf
            exact g
          · rename_i hf
            cases hnm
            have hd : x.k ≠ .dead := by rw [hk]; decide
            obtain ⟨cells, t, lo, hi, g1, g2, g3, g4⟩ := (hW'.blk b x hlx hd).here
            obtain ⟨g5, g6⟩ := g4 hk
            refine ⟨x, hlx, hx0, hk, rfl, g5, (hW'.blk b x hlx hd).lt, ?_, cells, t, (lo, hi), g1, fun k a hk => let ⟨v, v1, v2⟩ := g6 k a hk; ⟨v, v1, hpv v2⟩⟩
            rintro (hx' | ⟨b', y, j1, j2, j3, j4⟩)
            · exact (hW'.own b x hlx hd).2 (.inl hx')
            · rcases hcl b' y j1 j2 with ⟨e, y', k1, k2, _, k3, k4⟩ | ⟨k1, k2, x0, k3, _, k5, _⟩
              · obtain ⟨_, q2, q3, _⟩ := renBlk_some k3
                have heb : e = b := hW'.inj e b y' x k1 (by rw [← q2]; exact j2) hlx hd (by rw [← k2]; exact j4)
                rcases k4 with ⟨_, _, m2⟩ | ⟨_, m2, _⟩
                · exact hf m2
                · omega
              · exact hclash b x b' x0 hlx hd k1 k3 (by rw [← k5]; exact j2) (by rw [← k2]; exact j4.symm)
      · cases hnm
  have hcn : cond = true → r.res.noSlc = true ∧ ∀ y, y ∈ r.out ∨ y ∈ r.new → ∀ a ∈ y.es, a.noSlcA = true := by
    intro hc
    rw [← hcond] at hc
    simp only [Bool.and_eq_true] at hc
    refine ⟨hc.1.1, fun y hy a ha => ?_⟩
    rcases hy with hy | hy
    · exact List.all_eq_true.1 ((Bool.and_eq_true_iff).1 (List.all_eq_true.1 hc.1.2 y hy)).2 a ha
    · exact List.all_eq_true.1 ((Bool.and_eq_true_iff).1 (List.all_eq_true.1 hc.2 y hy)).2 a ha
  have hW1 : WR w0 G X Lo c1 := by
    refine ⟨Nat.le_trans h.size hW'.size, ?_, by rw [← h.os]; exact hW'.os, by rw [← h.out]; exact hW'.out, h.xs, ?_, ?_, ?_, ?_, fun _ => Iff.rfl⟩
    · intro i hi hg
      rw [← h.kept i hi hg]
      refine hW'.kept i (Nat.lt_of_lt_of_le hi h.size) ?_
      rintro ⟨k, x, g1, g2, g3, g4, g5⟩
      rcases (h.own k x g2 g3).1 g4 with j | j
      · omega
      · exact hg (g5 ▸ j)
    · intro b x g1 g2
      rcases hcl b x g1 g2 with ⟨e, y, k1, k2, _, k3, _⟩ | ⟨k1, k2, x0, k3, _, k5, _, _, k8, _⟩
      · obtain ⟨_, q2, q3, _⟩ := renBlk_some k3
        obtain ⟨j1, j2⟩ := hW'.own e y k1 (by rw [← q2]; exact g2)
        show (_ → _ ≤ R1 b ∨ G (R1 b)) ∧ ¬ X (R1 b)
        rw [k2]
        refine ⟨fun hf => ?_, fun hx => j2 (.inl hx)⟩
        rcases j1 (by rw [← q3]; exact hf) with j | ⟨k, x', i1, i2, i3, i4, i5⟩
        · exact .inl (Nat.le_trans h.size j)
        · rw [← i5]; exact (h.own k x' i2 i3).1 i4
      · obtain ⟨j1, j2⟩ := h.own b x0 k3 (by rw [← k5]; exact g2)
        show (_ → _ ≤ R1 b ∨ G (R1 b)) ∧ ¬ X (R1 b)
        rw [k2]
        exact ⟨fun hf => j1 (k8 hf), j2⟩
    · intro b x g1 g2
      show _ ≤ R1 b ∨ Lo (R1 b)
      rcases hcl b x g1 g2 with ⟨e, y, k1, k2, _, k3, _⟩ | ⟨k1, k2, x0, k3, _, k5, _⟩
      · obtain ⟨_, q2, q3, _⟩ := renBlk_some k3
        rw [k2]
        rcases hW'.low e y k1 (by rw [← q2]; exact g2) with j | ⟨k, x', i1, i2, i3, i5⟩
        · exact .inl (Nat.le_trans h.size j)
        · rw [← i5]; exact h.low k x' i2 i3
      · rw [k2]; exact h.low b x0 k3 (by rw [← k5]; exact g2)
    · intro b b' x x' g1 g2 g1' g2' ee
      have ee' : R1 b = R1 b' := ee
      rcases hcl b x g1 g2 with ⟨e, y, k1, k2, _, k3, k4⟩ | ⟨k1, k2, x0, k3, _, k5, _⟩
      · obtain ⟨_, q2, q3, _⟩ := renBlk_some k3
        rcases hcl b' x' g1' g2' with ⟨e', y', k1', k2', _, k3', k4'⟩ | ⟨k1', k2', x0', k3', _, k5', _⟩
        · obtain ⟨_, q2', q3', _⟩ := renBlk_some k3'
          have heq : e = e' := hW'.inj e e' y y' k1 (by rw [← q2]; exact g2) k1' (by rw [← q2']; exact g2') (by rw [← k2, ← k2', ee'])
          subst heq
          rcases k4 with ⟨m1, m2, _⟩ | ⟨m1, m2, m3⟩
          · rcases k4' with ⟨m1', m2', _⟩ | ⟨m1', m2', m3'⟩
            · omega
            · omega
          · rcases k4' with ⟨m1', m2', _⟩ | ⟨m1', m2', m3'⟩
            · omega
            · exact Option.some.inj (m3.symm.trans m3')
        · exact absurd (by rw [← k2, ← k2', ee']) (hclash e y b' x0' k1 (by rw [← q2]; exact g2) k1' k3' (by rw [← k5']; exact g2'))
      · rcases hcl b' x' g1' g2' with ⟨e', y', k1', k2', _, k3', k4'⟩ | ⟨k1', k2', x0', k3', _, k5', _⟩
        · obtain ⟨_, q2', q3', _⟩ := renBlk_some k3'
          exact absurd (by rw [← k2, ← k2', ee']) (hclash e' y' b x0 k1' (by rw [← q2']; exact g2') k1 k3 (by rw [← k5]; exact g2))
        · exact h.inj b b' x0 x0' k3 (by rw [← k5]; exact g2) k3' (by rw [← k5']; exact g2') (by rw [← k2, ← k2', ee'])
    · intro b x g1 g2
      rcases hcl b x g1 g2 with ⟨e, y, k1, k2, ky, k3, _⟩ | ⟨k1, k2, x0, k3, _, k5, k6, k7, _⟩
      · obtain ⟨_, q2, q3, q4, q5, q6⟩ := renBlk_some k3
        have q2 : x.k = y.k := q2
        have q4 : x.sz = y.sz := q4
        have q5 : y.k = .row → x.es = y.es := q5
        have q6 : y.k = .box → mapO (renD m) y.es = some x.es := q6
        obtain ⟨cells, t, lo, hi, j1, j2, j3, j4⟩ := (hW'.blk e y k1 (by rw [← q2]; exact g2)).here
        refine ⟨cells, t, lo, hi, by show c'.w.heap[R1 b]? = _; rw [k2]; exact j1, by rw [q4]; exact j2, fun hk => ?_, fun hk => ?_⟩
        · refine mapO_renD_content (fun a a' v ha hoa hv hr => ?_) (q6 (q2 ▸ hk)) (j3 (q2 ▸ hk))
          by_cases hc : cond = true
          · have hns := noSlcA_C ((hcn hc).2 y ky a ha) hoa
            rw [renD_noSlc hns hr]
            exact ⟨noSlcC_V hns hv, hoa⟩
          · exact renD_ok (hren (by simpa using hc)) hv hr
        · obtain ⟨j5, j6⟩ := j4 (q2 ▸ hk)
          rw [q4, q5 (q2 ▸ hk)]
          refine ⟨j5, fun k a hk => ?_⟩
          obtain ⟨v, v1, v2⟩ := j6 k a hk
          refine ⟨v, v1, ?_⟩
          by_cases hc : cond = true
          · obtain ⟨e', he', ha'⟩ := List.mem_flatMap.1 (List.mem_of_getElem? hk)
            exact noSlcC_PV (noSlcA_cells ((hcn hc).2 y ky e' he') a ha') v2
          · exact (hren (by simpa using hc)).pv v2
      · have hd : x0.k ≠ .dead := by rw [← k5]; exact g2
        obtain ⟨cells, t, lo, hi, j1, j2, j3, j4⟩ := (h.blk b x0 k3 hd).here
        refine ⟨cells, t, lo, hi, ?_, by rw [k6]; exact j2, fun hk => by rw [k7]; exact (j3 (k5 ▸ hk)).mono L, fun hk => by rw [k6, k7]; exact ⟨(j4 (k5 ▸ hk)).1, (j4 (k5 ▸ hk)).2.mono L⟩⟩
        show c'.w.heap[R1 b]? = _
        rw [k2, hW'.kept _ (hlt b x0 k3 hd) (hnotG b x0 k1 k3 hd)]; exact j1
  refine ⟨c1, res', n ++ (o ++ fr), ?_, rfl, rfl, hW1, L, ?_⟩
  · split at hr
    · rename_i hp; rw [if_pos hp]; exact (Option.some.inj hr).symm
    · rename_i hp; rw [if_neg hp]; exact (Option.some.inj hr).symm
  · by_cases hc : cond = true
    · rw [renT_noSlc (hcn hc).1 hres]
      exact noSlc_V (hcn hc).1 hv
    · exact renT_ok (hren (by simpa using hc)) hv hres

end
end Go.Ab
/- One operation. -/
namespace Go.Ab
open Go

section
variable {P : Program} {w0 : World} {G X Lo : Nat → Prop} {c : Cx}

/-- It can be called. -/
def Callable (P : Program) (f : FuncId) : Prop := ∃ fn b, P.funcs[f]? = some fn ∧ fn.body = some b ∧ (fn.name == "runtime.NumGoroutine") = false

def CallPost (w0 : World) (G X Lo : Nat → Prop) (c : Cx) (r : Ret) (e : Ending) (w' : World) : Prop :=
  ∃ c' v, c'.w = w' ∧ c'.S = outerSt r.out ++ withKeys newBase 0 r.new ∧ WR w0 G X Lo c' ∧ Le c c' ∧ V c' r.res v ∧ e = if r.pan = true then .panicked [{ v := v, recovered := false }] else .returned v

/-- What the evaluator says of a call is so. -/
structure FnOk (P : Program) (callF : CallF) : Prop where
  there : ∀ {f args out r}, callF f args out = some r → Callable P f
  ok : ∀ {f args out r}, callF f args out = some r → ∀ {c w0 G X Lo} {vs : List Value}, c.S = outerSt out → (∀ x ∈ out, x.v = 0) → WR w0 G X Lo c → VL c args vs →
    Calls P f vs.toArray c.w (CallPost w0 G X Lo c r)

def resOf (pan : Bool) (a : AV) (ds : List (Nat × Blk)) : Res := if pan = true then .pan a ds else .val a ds
def endOf (pan : Bool) (v : Value) : Ending := if pan = true then .panicked [{ v := v, recovered := false }] else .returned v

theorem call_split (h : WR w0 G X Lo c) {callF : CallF} {cfg : Cfg} {d : Option Tmp} {f : FuncId} {args : List AV} {vs : List Value} (hv : VL c args vs) {res : Res}
    (hr : aCall cfg callF c.S d f args = some res) :
    ∃ (args2 : List AV) (out : List Blk) (r : Ret) (cc : Cx) (w0' : World) (G' X' Lo' : Nat → Prop), callF f args2 out = some r ∧ cc.w = c.w ∧ cc.S = outerSt out ∧ (∀ x ∈ out, x.v = 0) ∧ WR w0' G' X' Lo' cc ∧ VL cc args2 vs ∧
      ∀ (c' : Cx) (v : Value), c'.S = outerSt r.out ++ withKeys newBase 0 r.new → WR w0' G' X' Lo' c' → Le cc c' → V c' r.res v →
        ∃ c1 a ds, res = resOf r.pan a ds ∧ c1.w = c'.w ∧ c1.S = ds ++ c.S ∧ WR w0 G X Lo c1 ∧ Le c c1 ∧ V c1 a v := by
  unfold aCall at hr
  split at hr
  · cases hr
  rename_i args2 ks out hin
  split at hr
  · cases hr
  rename_i r hcall
  obtain ⟨cF, cc, E, hv2⟩ := enter_ok h hv hin
  have hout : ∀ x ∈ out, x.v = 0 := by
    intro x hx
    obtain ⟨i, hi⟩ := List.getElem?_of_mem hx
    have hlt := (List.getElem?_eq_some_iff.1 hi).1
    obtain ⟨x0, y, _, g2, g3, _⟩ := E.blk i (ks[i]'(by rw [← E.len]; exact hlt)) (List.getElem?_eq_getElem _)
    have : y = x := Option.some.inj (g2.symm.trans hi)
    subst this
    exact g3
  refine ⟨args2, out, r, cc, _, _, _, _, hcall, E.w, E.S, hout, E.wr, hv2, ?_⟩
  intro c' v h2 h3 h4 h5
  obtain ⟨c1, a, ds, g1, g2, g3, g4, g5, g6⟩ := back_ok h E h2 h3 h4 h5 hr
  exact ⟨c1, a, ds, g1, g2, g3, g4, g5, g6⟩

theorem call_ok {callF : CallF} (hF : FnOk P callF) (h : WR w0 G X Lo c) {cfg : Cfg} {d : Option Tmp} {f : FuncId} {args : List AV} {vs : List Value} (hv : VL c args vs) {res : Res}
    (hr : aCall cfg callF c.S d f args = some res) :
    Callable P f ∧ Calls P f vs.toArray c.w fun e w' => ∃ pan a ds u c1, res = resOf pan a ds ∧ e = endOf pan u ∧ c1.w = w' ∧ c1.S = ds ++ c.S ∧ WR w0 G X Lo c1 ∧ Le c c1 ∧ V c1 a u := by
  obtain ⟨args2, out, r, cc, w0', G', X', Lo', hcall, k1, k2, k3, k4, k5, k6⟩ := call_split h hv hr
  refine ⟨hF.there hcall, ?_⟩
  have := hF.ok hcall k2 k3 k4 k5
  rw [k1] at this
  refine this.mono ?_
  rintro e w' ⟨c', v, h1, h2, h3, h4, h5, h6⟩
  obtain ⟨c1, a, ds, g1, g2, g3, g4, g5, g6⟩ := k6 c' v h2 h3 h4 h5
  exact ⟨r.pan, a, ds, v, c1, g1, h6, by rw [g2, h1], g3, g4, g5, g6⟩

/-- The temporaries. -/
structure Fr (c : Cx) (n : Nat) (fr : List (Nat × AV)) (tmps : Array Value) : Prop where
  size : tmps.size = n
  lt : ∀ t v, look fr t = some v → t < n
  rel : ∀ t v, look fr t = some v → V c v (tmps.getD t Go.undef)

theorem Fr.mono {c c' : Cx} (L : Le c c') {n : Nat} {fr : List (Nat × AV)} {tmps : Array Value} (h : Fr c n fr tmps) : Fr c' n fr tmps :=
  ⟨h.size, h.lt, fun t v ht => (h.rel t v ht).mono L⟩

theorem Fr.put {n : Nat} {fr : List (Nat × AV)} {a : Act} (h : Fr c n fr a.tmps) {t : Tmp} (ht : t < n) {v : AV} {u : Value} (hv : V c v u) : Fr c n ((t, v) :: fr) (a.put (some t) u).tmps := by
  refine ⟨by simp [Act.put, h.size], fun i x hi => ?_, fun i x hi => ?_⟩
  · rw [look_cons] at hi
    split at hi
    · rename_i e; subst e; exact ht
    · exact h.lt i x hi
  · rw [look_cons] at hi
    split at hi
    · rename_i e
      subst e
      cases hi
      have : (a.put (some t) u).tmps.getD t Go.undef = u := by
        have := h.size
        simp [Act.put, Array.getD, this, ht]
      rw [this]; exact hv
    · rename_i e
      have : (a.put (some t) u).tmps.getD i Go.undef = a.tmps.getD i Go.undef := by
        simp [Act.put, Array.getElem?_setIfInBounds_ne e]
      rw [this]; exact h.rel i x hi

theorem ev_ok {n : Nat} {st : St} {a : Act} (h : Fr c n st.fr a.tmps) (x : Operand) : V c (st.ev x) (a.eval x) := by
  cases x with
  | tmp t =>
    show V c ((look st.fr t).getD .undef) (a.tmps.getD t Go.undef)
    cases hl : look st.fr t with
    | none => exact .pure (.undef _)
    | some v => exact h.rel t v hl
  | const v => exact .pure (ofCell_V v)
  | func f => exact .pure (.fn f)
  | global g => exact .pure (.undef _)

theorem V_simpleC {a : AV} {v : Value} (hs : a.simpleC = true) (h : V c a v) : PV c.w c.F a v := by
  cases h with
  | pure h => exact h
  | _ => cases hs

theorem V_simple {a : AV} {v : Value} (hs : a.simple = true) (h : V c a v) : PV c.w c.F a v := by
  cases h with
  | pure h => exact h
  | agg cs vs hl hc h => exact .agg cs vs hl hc (fun i a u h1 h2 => V_simpleC (List.all_eq_true.1 hs a (List.mem_of_getElem? h1)) (h i a u h1 h2))
  | _ => cases hs

/-- What an operation does, seen from its end. -/
def OpOk (P : Program) (w0 : World) (G X Lo : Nat → Prop) (c : Cx) (o : Oper) (a : Act) : Res → Prop
  | .val v ds => ∀ (next : Act → World → Prop) (Q : Exit → Act → World → Prop),
      (∀ u c1, c1.S = ds ++ c.S → WR w0 G X Lo c1 → Le c c1 → V c1 v u → next (a.put o.dst u) c1.w) → o.wp P a c.w next Q
  | .pan v ds => ∀ (next : Act → World → Prop) (Q : Exit → Act → World → Prop),
      (∀ u c1, c1.S = ds ++ c.S → WR w0 G X Lo c1 → Le c c1 → V c1 v u → Q (.panic [{ v := u, recovered := false }]) a c1.w) → o.wp P a c.w next Q
  | .dfr f args => ∀ (next : Act → World → Prop) (Q : Exit → Act → World → Prop),
      (∀ fv (vs : List Value) fn cap (first : Array Value), V c f fv → VL c args vs → fv = .func fn first cap → next ({ a with defers := { target := .fn fn cap, args := first ++ vs.toArray } :: a.defers }.put o.dst Go.undef) c.w) → o.wp P a c.w next Q

theorem OpOk.of_run {o : Oper} {a : Act} {v : AV} {u : Value} (h : WR w0 G X Lo c) (hr : (execOp a.eval o).run P c.w = .ok (.value u) c.w) (hv : V c v u) : OpOk P w0 G X Lo c o a (.val v []) := by
  intro next Q hn
  unfold Oper.wp
  rw [hr, Oper.upon_value]
  exact hn u c rfl h (Le.refl c) hv

theorem OpOk.of_mok {o : Oper} {a : Act} {v : AV} {ds : List (Nat × Blk)} {s : Sem Value} (hs : execOp a.eval o = (do pure (.value (← s)))) (h : MOk P w0 G X Lo c s v ds) : OpOk P w0 G X Lo c o a (.val v ds) := by
  obtain ⟨u, c1, h1, h2, h3, h4, h5⟩ := h
  intro next Q hn
  unfold Oper.wp
  rw [hs]
  simp only [Sem.run_bind, h1, Result.andThen_ok, Sem.run_pure, Oper.upon_value]
  exact hn u c1 h2 h3 h4 h5

theorem OpOk.of_pure {o : Oper} {a : Act} {v : AV} {s : Sem Value} (h : WR w0 G X Lo c) (hs : execOp a.eval o = (do pure (.value (← s)))) (hr : ∃ u, s.run P c.w = .ok u c.w ∧ V c v u) : OpOk P w0 G X Lo c o a (.val v []) := by
  obtain ⟨u, h1, h2⟩ := hr
  exact OpOk.of_mok hs ⟨u, c, h1, rfl, h, Le.refl c, h2⟩

theorem pv_some {x : Option AV} {r : Res} (h : pv x = some r) : ∃ v, x = some v ∧ r = .val v [] := by
  unfold pv at h
  split at h
  · cases h; exact ⟨_, rfl, rfl⟩
  · cases h

theorem VL_map {n : Nat} {st : St} {a : Act} (h : Fr c n st.fr a.tmps) : ∀ (l : List Operand), VL c (l.map st.ev) (l.map a.eval)
  | [] => VL.nil
  | x :: l => VL.cons (ev_ok h x) (VL_map h l)

theorem OV_map {n : Nat} {st : St} {a : Act} (h : Fr c n st.fr a.tmps) (x : Option Operand) : OV c (x.map st.ev) (x.map a.eval) := by
  cases x with
  | none => exact .none
  | some x => exact .some (ev_ok h x)

theorem op_ok {callF : CallF} (hF : FnOk P callF) (h : WR w0 G X Lo c) {cfg : Cfg} {n : Nat} {st : St} (hS : c.S = st.bs) {a : Act} (hfr : Fr c n st.fr a.tmps) {o : Oper} {res : Res}
    (hr : aOp P cfg callF st o = some res) : OpOk P w0 G X Lo c o a res := by
  have ev := fun x => ev_ok hfr x
  obtain ⟨dst, op, type, pos, after, guard⟩ := o
  cases op <;> simp only [aOp] at hr <;> try (cases hr; done)
  case move x =>
    obtain ⟨v, h1, rfl⟩ := pv_some hr
    cases h1
    exact OpOk.of_run h rfl (ev x)
  case assign x =>
    obtain ⟨v, h1, rfl⟩ := pv_some hr
    cases h1
    exact OpOk.of_run h rfl (ev x)
  case pick q x y =>
    split at hr
    · rename_i t ht
      obtain ⟨v, h1, rfl⟩ := pv_some hr
      cases h1
      have hq := ev q
      rw [ht] at hq
      refine OpOk.of_run (u := if t then a.eval x else a.eval y) h (by simp [execOp, hq.bool_inv, asBool]) ?_
      cases t
      · exact ev y
      · exact ev x
    · cases hr
  case alloc t =>
    split at hr
    · rename_i z hz
      rw [← hS] at hr
      cases res with
      | val v ds => exact OpOk.of_mok rfl (alloc_ok h hz hr)
      | pan v ds => unfold newBox at hr; (repeat' split at hr) <;> cases hr
      | dfr f as => unfold newBox at hr; (repeat' split at hr) <;> cases hr
    · cases hr
  case box t x =>
    rw [← hS] at hr
    cases res with
    | val v ds => exact OpOk.of_mok rfl (box_ok h (ev x) hr t)
    | pan v ds => unfold newBox at hr; (repeat' split at hr) <;> cases hr
    | dfr f as => unfold newBox at hr; (repeat' split at hr) <;> cases hr
  case build t ps =>
    cases res with
    | val v ds =>
      obtain ⟨rfl, h1⟩ := build_ok c.w (fun x => ev x) hr
      exact OpOk.of_pure h rfl h1
    | pan v ds => unfold aBuild at hr; (repeat' split at hr) <;> cases hr
    | dfr f as => unfold aBuild at hr; (repeat' split at hr) <;> cases hr
  case buildSlice t len ps =>
    rw [← hS] at hr
    cases res with
    | val v ds => exact OpOk.of_mok rfl (buildSlice_ok h (fun x => ev x) hr)
    | pan v ds => unfold aBuildSlice newRow at hr; (repeat' split at hr) <;> cases hr
    | dfr f as => unfold aBuildSlice newRow at hr; (repeat' split at hr) <;> cases hr
  case load t x =>
    obtain ⟨v, h1, rfl⟩ := pv_some hr
    rw [← hS] at h1
    exact OpOk.of_pure h rfl (load_ok h (ev x) h1)
  case store t x y =>
    rw [← hS] at hr
    split at hr
    · rename_i ds hds
      cases hr
      obtain ⟨c1, g1, g2, g3, g4⟩ := store_ok h (ev x) (ev y) hds
      intro next Q hn
      unfold Oper.wp
      have : (execOp a.eval { dst := dst, op := .store t x y, type := type, pos := pos, after := after, guard := guard }).run P c.w = .ok .skip c1.w := by
        simp only [execOp, Sem.run_bind, g1, Result.andThen_ok, Sem.run_pure]
      rw [this, Oper.upon_skip]
      exact hn Go.undef c1 g2 g3 g4 (.pure .skp)
    · cases hr
  case nilCheck x =>
    have hx := ev x
    split at hr
    · rename_i b v i off he
      split at hr
      · rename_i p hp
        obtain ⟨v', h1, rfl⟩ := pv_some hr
        cases h1
        rw [he] at hx
        obtain ⟨cs, off'⟩ := p
        rw [← hS] at hp
        obtain ⟨B, O, e1, _⟩ := Lies.ptr_of hx hp
        refine OpOk.of_run (u := a.eval x) h ?_ hx
        simp [execOp, e1]
      · cases hr
    · rename_i e off he
      obtain ⟨v', h1, rfl⟩ := pv_some hr
      cases h1
      rw [he] at hx
      obtain ⟨b, o', vals, e1, _⟩ := hx.eptr_inv
      refine OpOk.of_run (u := a.eval x) h ?_ hx
      simp [execOp, e1]
    · rename_i f fs cs he
      obtain ⟨v', h1, rfl⟩ := pv_some hr
      cases h1
      rw [he] at hx
      obtain ⟨vfs, vcs, e1, _⟩ := hx.fn_inv
      refine OpOk.of_run (u := a.eval x) h ?_ hx
      simp [execOp, e1]
    · cases hr
  case binOp op t x y _ =>
    split at hr
    · rename_i hfree
      obtain ⟨v, h1, rfl⟩ := pv_some hr
      obtain ⟨u, g1, g2⟩ := bin_ok c.w (ev x) (ev y) h1
      refine OpOk.of_pure (s := do eqGuard op t x y (a.eval x) (a.eval y); binOp op t (a.eval x) (a.eval y)) h rfl ⟨u, ?_, g2⟩
      rw [Sem.run_bind, eqGuard_ok c.w hfree (ev x) (ev y), Result.andThen_ok]
      exact g1
    · obtain ⟨v, h1, rfl⟩ := pv_some hr
      obtain ⟨u, g1, g2⟩ := nil_ok (t := t) (x := x) c.w (ev x) h1
      refine OpOk.of_pure (s := do eqGuard op t x y (a.eval x) (a.eval y); binOp op t (a.eval x) (a.eval y)) h rfl ⟨u, ?_, g2⟩
      rw [nil_const h1]
      exact g1
  case unOp op t x =>
    obtain ⟨v, h1, rfl⟩ := pv_some hr
    exact OpOk.of_pure h rfl (un_ok c.w (ev x) h1)
  case convert src d x =>
    rw [← hS] at hr
    cases res with
    | val v ds => exact OpOk.of_mok rfl (conv_ok h (ev x) hr)
    | pan v ds => unfold aConv newRow at hr; (repeat' split at hr) <;> cases hr
    | dfr f as => unfold aConv newRow at hr; (repeat' split at hr) <;> cases hr
  case makeInterface t x =>
    split at hr
    · cases hr
    · rename_i d hni hd
      split at hr
      · rename_i hs
        obtain ⟨v, h1, rfl⟩ := pv_some hr
        cases h1
        refine OpOk.of_pure (s := Instr.makeInterface t (a.eval x)) h rfl ⟨.iface t (a.eval x), ?_, .pure (.iface _ _ _ hs (V_simple hs (ev x)))⟩
        have := run_underlying (P := P) hd c.w
        unfold Instr.makeInterface
        rw [Sem.run_bind, this, Result.andThen_ok]
        split
        · rename_i m; exact (hni m rfl).elim
        · rfl
      · cases hr
    · cases hr
  case makeFunc fn first captured =>
    cases fn <;> simp only at hr <;> first | (cases hr; done) | skip
    rename_i f
    split at hr
    · obtain ⟨v, h1, rfl⟩ := pv_some hr
      cases h1
      have g1 := VL_map hfr first.toList
      have g2 := VL_map hfr captured.toList
      refine OpOk.of_run (u := .func (.func f) (first.map a.eval) (captured.map a.eval)) h (by simp [execOp, Instr.makeFunc]) ?_
      have e1 : first.map a.eval = (first.toList.map a.eval).toArray := by rw [← Array.toList_map, Array.toArray_toList]
      have e2 : captured.map a.eval = (captured.toList.map a.eval).toArray := by rw [← Array.toList_map, Array.toArray_toList]
      rw [e1, e2]
      exact .fn f _ _ _ _ g1.1 g2.1 g1.2 g2.2
    · cases hr
  case makeSlice t l m =>
    rw [← hS] at hr
    cases res with
    | val v ds => exact OpOk.of_mok rfl (make_ok h (ev l) (ev m) hr)
    | pan v ds => unfold aMakeSlice newRow at hr; (repeat' split at hr) <;> cases hr
    | dfr f as => unfold aMakeSlice newRow at hr; (repeat' split at hr) <;> cases hr
  case slice t x lo hi mx =>
    obtain ⟨v, h1, rfl⟩ := pv_some hr
    rw [← hS] at h1
    exact OpOk.of_pure h rfl (slice_ok c.w (ev x) (OV_map hfr lo) (OV_map hfr hi) (OV_map hfr mx) h1)
  case fieldAddr s x f =>
    obtain ⟨v, h1, rfl⟩ := pv_some hr
    rw [← hS] at h1
    exact OpOk.of_pure h rfl (fieldAddr_ok (ev x) h1)
  case field t x f =>
    obtain ⟨v, h1, rfl⟩ := pv_some hr
    exact OpOk.of_pure h rfl (field_ok c.w (ev x) h1)
  case indexAddr t x i =>
    obtain ⟨v, h1, rfl⟩ := pv_some hr
    rw [← hS] at h1
    exact OpOk.of_pure h rfl (indexAddr_ok (ev x) (ev i) h1)
  case index t x i =>
    obtain ⟨v, h1, rfl⟩ := pv_some hr
    exact OpOk.of_pure h rfl (index_ok c.w (ev x) (ev i) h1)
  case extract t i =>
    split at hr
    · rename_i vs hvs
      obtain ⟨v, h1, rfl⟩ := pv_some hr
      exact OpOk.of_pure h rfl (extract_ok (x := .undef) c.w (hvs ▸ ev t) h1)
    · cases hr
  case typeAssert x xT asserted ok =>
    obtain ⟨v, h1, rfl⟩ := pv_some hr
    exact OpOk.of_pure h rfl (assert_ok c.w (ev x) h1)
  case panic x =>
    split at hr
    · rename_i t v hx
      split at hr
      · rename_i hs
        cases hr
        have hv := hx ▸ ev x
        obtain ⟨u, e1, _⟩ := hv.iface_inv
        intro next Q hn
        unfold Oper.wp
        have : (execOp a.eval { dst := dst, op := .panic x, type := type, pos := pos, after := after, guard := guard }).run P c.w = .halt (.panic (.iface t u)) c.w := by
          simp [execOp, Instr.panic, e1, goPanic]
        rw [this, Oper.upon_panic]
        exact hn _ c rfl h (Le.refl c) (e1 ▸ hv)
      · cases hr
    · cases hr
  case call cl =>
    obtain ⟨callee, args, argTypes⟩ := cl
    cases callee with
    | value f =>
      simp only at hr
      split at hr
      · rename_i g first captured he
        rw [← hS] at hr
        have hf := he ▸ ev f
        obtain ⟨vfs, vcs, e1, l1, l2, p1, p2⟩ := hf.fn_inv
        have hargs := VL.append (VL.append (c := c) ⟨l1, p1⟩ (VL_map hfr args.toList)) (⟨l2, p2⟩ : VL c captured vcs)
        obtain ⟨⟨fn, b, k1, k2, k3⟩, hc⟩ := call_ok hF h hargs hr
        have hrun : (execOp a.eval { dst := dst, op := .call { callee := .value f, args := args, argTypes := argTypes }, type := type, pos := pos, after := after, guard := guard }).run P c.w =
            .ok (.enter g (vfs ++ args.toList.map a.eval ++ vcs).toArray) c.w := by
          have hm : args.map a.eval = (args.toList.map a.eval).toArray := by rw [← Array.toList_map, Array.toArray_toList]
          have k3' : ¬ fn.name = "runtime.NumGoroutine" := by simpa using k3
          simp only [execOp, resolve, e1, Deferred.ofValue, hm]
          simp [invoke, callFunc, k1, k2, k3']
        cases res with
        | val v ds =>
          intro next Q hn
          unfold Oper.wp
          rw [hrun, Oper.upon_enter]
          refine hc.mono ?_
          rintro e w' ⟨pan, a', ds', u, c1, hres, he', hw, g2, g3, g4, g5⟩
          cases pan
          · cases hres
            subst he'
            subst hw
            exact hn u c1 g2 g3 g4 g5
          · cases hres
        | pan v ds =>
          intro next Q hn
          unfold Oper.wp
          rw [hrun, Oper.upon_enter]
          refine hc.mono ?_
          rintro e w' ⟨pan, a', ds', u, c1, hres, he', hw, g2, g3, g4, g5⟩
          cases pan
          · cases hres
          · cases hres
            subst he'
            subst hw
            exact hn u c1 g2 g3 g4 g5
        | dfr f' as =>
          intro next Q hn
          unfold Oper.wp
          rw [hrun, Oper.upon_enter]
          refine hc.mono ?_
          rintro e w' ⟨pan, a', ds', u, c1, hres, he', hw, g2, g3, g4, g5⟩
          cases pan <;> cases hres
      · cases hr
    | invoke r m => simp at hr
    | builtin b =>
      simp only at hr
      have hm : args.map a.eval = (args.toList.map a.eval).toArray := by rw [← Array.toList_map, Array.toArray_toList]
      have hvl := VL_map hfr args.toList
      generalize args.toList.map st.ev = as at hr hvl
      generalize args.toList.map a.eval = vs at hm hvl
      have hty : argTypes = argTypes.toList.toArray := by simp
      generalize argTypes.toList = ts at hr hty
      subst hty
      unfold aBuiltin at hr
      cases b <;> simp only at hr <;> try (cases hr; done)
      case len =>
        split at hr
        · rename_i t r
          split at hr
          · rename_i x r'
            obtain ⟨v, r'', rfl, h1, h2⟩ := VL.of_cons hvl
            split at hr
            · rename_i v' hv'
              cases hr
              rw [← hS] at hv'
              exact OpOk.of_pure (s := Builtin.len_ (t :: r).toArray type (v :: r'').toArray) h (by rw [← hm]; rfl) (len_ok c.w h1 hv')
            · cases hr
          · cases hr
        · cases hr
      case append =>
        split at hr
        · rename_i sT xT
          split at hr
          · rename_i s x
            obtain ⟨sv, r1, rfl, h1, h2⟩ := VL.of_cons hvl
            obtain ⟨xv, r2, rfl, h3, h4⟩ := VL.of_cons h2
            have : r2 = [] := List.eq_nil_of_length_eq_zero (by simpa using h4.1.symm)
            subst this
            rw [← hS] at hr
            cases res with
            | val v ds => exact OpOk.of_mok (by simp only [execOp, resolve, hm]; rfl) (append_ok (ty := type) h h1 h3 hr)
            | pan v ds => unfold aAppend newRow at hr; (repeat' split at hr) <;> cases hr
            | dfr f as => unfold aAppend newRow at hr; (repeat' split at hr) <;> cases hr
          · cases hr
        · cases hr
      case copy =>
        split at hr
        · rename_i dT xT
          split at hr
          · rename_i s x
            obtain ⟨sv, r1, rfl, h1, h2⟩ := VL.of_cons hvl
            obtain ⟨xv, r2, rfl, h3, h4⟩ := VL.of_cons h2
            have : r2 = [] := List.eq_nil_of_length_eq_zero (by simpa using h4.1.symm)
            subst this
            rw [← hS] at hr
            cases res with
            | val v ds => exact OpOk.of_mok (by simp only [execOp, resolve, hm]; rfl) (copy_ok (ty := type) h h1 h3 hr)
            | pan v ds => unfold aCopy at hr; (repeat' split at hr) <;> cases hr
            | dfr f as => unfold aCopy at hr; (repeat' split at hr) <;> cases hr
          · cases hr
        · cases hr
      case clear =>
        split at hr
        · rename_i t r
          split at hr
          · rename_i x r'
            obtain ⟨v, r'', rfl, h1, h2⟩ := VL.of_cons hvl
            rw [← hS] at hr
            cases res with
            | val v' ds => exact OpOk.of_mok (by simp only [execOp, resolve, hm]; rfl) (clear_ok (ty := type) h h1 hr)
            | pan v ds => unfold aClear at hr; (repeat' split at hr) <;> cases hr
            | dfr f as => unfold aClear at hr; (repeat' split at hr) <;> cases hr
          · cases hr
        · cases hr
      case min =>
        split at hr
        · rename_i k m r'
          obtain ⟨v, r'', rfl, h1, h2⟩ := VL.of_cons hvl
          split at hr
          · rename_i v' hv'
            cases hr
            exact OpOk.of_pure (s := Builtin.min_ ts.toArray type (v :: r'').toArray) h (by rw [← hm]; rfl) (by simpa [Builtin.min_] using min_ok c.w hv' h1 h2.1 h2.2)
          · cases hr
        · cases hr
      case max =>
        split at hr
        · rename_i k m r'
          obtain ⟨v, r'', rfl, h1, h2⟩ := VL.of_cons hvl
          split at hr
          · rename_i v' hv'
            cases hr
            exact OpOk.of_pure (s := Builtin.max_ ts.toArray type (v :: r'').toArray) h (by rw [← hm]; rfl) (by simpa [Builtin.max_] using max_ok c.w hv' h1 h2.1 h2.2)
          · cases hr
        · cases hr
  case defer cl =>
    obtain ⟨callee, args, argTypes⟩ := cl
    cases callee with
    | value f =>
      simp only at hr
      split at hr
      · rename_i g first captured he
        cases hr
        have hf := he ▸ ev f
        obtain ⟨vfs, vcs, e1, l1, l2, p1, p2⟩ := hf.fn_inv
        have hm : args.map a.eval = (args.toList.map a.eval).toArray := by rw [← Array.toList_map, Array.toArray_toList]
        have hrun : (execOp a.eval { dst := dst, op := .defer { callee := .value f, args := args, argTypes := argTypes }, type := type, pos := pos, after := after, guard := guard }).run P c.w =
            .ok (.defer { target := .fn (.func g) vcs.toArray, args := vfs.toArray ++ (args.toList.map a.eval).toArray }) c.w := by
          rw [← hm]
          simp [execOp, resolve, e1, Deferred.ofValue]
        intro next Q hn
        unfold Oper.wp
        rw [hrun, Oper.upon_defer]
        exact hn _ _ _ _ _ hf (VL_map hfr args.toList) e1
      · cases hr
    | invoke r m => simp at hr
    | builtin b => simp at hr
end
end Go.Ab
/- Code: one thing behind another, tests, loops. -/
namespace Go.Ab
open Go

section
variable {P : Program} {w0 : World} {G X Lo : Nat → Prop}

/-- Calls that were put off. -/
def DfR (c : Cx) : List (AV × List AV) → List Deferred → Prop
  | [], [] => True
  | (f, args) :: r, d :: ds => (∃ fn first cap, ∃ vs : List Value, V c f (.func fn first cap) ∧ VL c args vs ∧ d = { target := .fn fn cap, args := first ++ vs.toArray }) ∧ DfR c r ds
  | _, _ => False

theorem DfR.mono {c c' : Cx} (L : Le c c') : ∀ {df : List (AV × List AV)} {ds : List Deferred}, DfR c df ds → DfR c' df ds
  | [], [], _ => trivial
  | (f, args) :: r, d :: ds, h => by
    obtain ⟨⟨fn, first, cap, vs, h1, h2, h3⟩, h4⟩ := h
    exact ⟨⟨fn, first, cap, vs, h1.mono L, h2.mono L, h3⟩, DfR.mono L h4⟩
  | [], _ :: _, h => h.elim
  | _ :: _, [], h => h.elim

/-- A state of the evaluator and one of the machine. -/
structure Sim (w0 : World) (G X Lo : Nat → Prop) (n : Nat) (c0 c : Cx) (st : St) (a : Act) : Prop where
  S : c.S = st.bs
  wr : WR w0 G X Lo c
  le : Le c0 c
  fr : Fr c n st.fr a.tmps
  df : DfR c st.df a.defers

def ExR (c : Cx) : Ex → Exit → Prop
  | .norm, ex => ex = .normal
  | .exit id, ex => ex = .exit id
  | .ret, ex => ex = .ret
  | .pan v, ex => ∃ u, V c v u ∧ ex = .panic [{ v := u, recovered := false }]

def Post (w0 : World) (G X Lo : Nat → Prop) (n : Nat) (c0 : Cx) (e : Ex) (st : St) (ex : Exit) (a : Act) (w : World) : Prop :=
  ∃ c, c.w = w ∧ Sim w0 G X Lo n c0 c st a ∧ ExR c e ex

theorem wanted_ok {n : Nat} {c : Cx} {st : St} {a : Act} (h : Fr c n st.fr a.tmps) {ops : Array Oper} {o : Oper} {b : Bool} (hw : aWanted ops st o = some b) : Region.wanted o (yielded ops a.tmps) = b := by
  unfold aWanted at hw
  unfold Region.wanted
  split at hw
  · rename_i hg; rw [hg]; cases hw; rfl
  · rename_i j want hg
    rw [hg]
    simp only [yielded]
    split at hw
    · rename_i g hj
      simp only [hj, Option.bind_some]
      split at hw
      · rename_i d hd
        simp only [hd, Option.bind_some]
        split at hw
        · rename_i b' hb
          cases hw
          cases hl : look st.fr d with
          | none => rw [hl] at hb; cases hb
          | some v =>
            rw [hl] at hb
            simp only [Option.getD_some] at hb
            subst hb
            have h1 := (h.rel d _ hl).bool_inv
            have hlt : d < a.tmps.size := by rw [h.size]; exact h.lt d _ hl
            simp [Array.getD, hlt] at h1
            have : a.tmps[d]? = some (.bool b') := by rw [Array.getElem?_eq_getElem hlt, h1]
            rw [this]
            cases b' <;> cases want <;> rfl
        · rename_i hb
          cases hw
          cases hl : look st.fr d with
          | none => rw [hl] at hb; cases hb
          | some v =>
            rw [hl] at hb
            simp only [Option.getD_some] at hb
            subst hb
            have h1 := (h.rel d _ hl).skp_inv
            have hlt : d < a.tmps.size := by rw [h.size]; exact h.lt d _ hl
            simp [Array.getD, hlt] at h1
            have : a.tmps[d]? = some Go.undef := by rw [Array.getElem?_eq_getElem hlt, h1]
            rw [this]
            rfl
        · cases hw
      · rename_i hd
        cases hw
        simp only [hd, Option.bind_none]
        rfl
    · rename_i hj
      cases hw
      simp only [hj, Option.bind_none]
      rfl

theorem put_some {n : Nat} {st st' : St} {d : Option Tmp} {v : AV} {ds : List (Nat × Blk)} (h : st.put n d v ds = some st') :
    st'.bs = ds ++ st.bs ∧ st'.df = st.df ∧ ((d = none ∧ st'.fr = st.fr) ∨ ∃ t, d = some t ∧ t < n ∧ st'.fr = (t, v) :: st.fr) := by
  unfold St.put at h
  split at h
  · rename_i t
    split at h
    · rename_i ht; cases h; exact ⟨rfl, rfl, .inr ⟨t, rfl, ht, rfl⟩⟩
    · cases h
  · cases h; exact ⟨rfl, rfl, .inl ⟨rfl, rfl⟩⟩

theorem Act.put_dfs (a : Act) (d : Option Tmp) (u : Value) : (a.put d u).defers = a.defers := by cases d <;> rfl

/-- A value is put where it belongs. -/
theorem Sim.put {n : Nat} {c0 c c1 : Cx} {st st' : St} {a : Act} (h : Sim w0 G X Lo n c0 c st a) {d : Option Tmp} {v : AV} {u : Value} {ds : List (Nat × Blk)} (hp : st.put n d v ds = some st')
    (hS : c1.S = ds ++ c.S) (hW : WR w0 G X Lo c1) (hL : Le c c1) (hv : V c1 v u) : Sim w0 G X Lo n c0 c1 st' (a.put d u) := by
  obtain ⟨h1, h2, h3⟩ := put_some hp
  refine ⟨by rw [hS, h.S, h1], hW, h.le.trans hL, ?_, by rw [h2, Act.put_dfs]; exact h.df.mono hL⟩
  rcases h3 with ⟨rfl, e⟩ | ⟨t, rfl, ht, e⟩
  · rw [e]; exact h.fr.mono hL
  · rw [e]; exact (h.fr.mono hL).put ht hv

theorem Sim.skip {n : Nat} {c0 c : Cx} {st st' : St} {a : Act} (h : Sim w0 G X Lo n c0 c st a) {d : Option Tmp} (hp : st.put n d .skp [] = some st') : Sim w0 G X Lo n c0 c st' (a.put d Go.undef) :=
  h.put hp rfl h.wr (Le.refl c) (.pure .skp)

theorem ops_ok {callF : CallF} (hF : FnOk P callF) {cfg : Cfg} {n : Nat} {ops : Array Oper} {trk : Bool} {c0 : Cx} {e : Ex} {st' : St} {t' : Trk} : ∀ (rest : List Oper) (i : Nat) (st : St) (t : Trk) (c : Cx) (a : Act),
    aOps P cfg callF n ops trk i rest st t = some (e, st', t') → (∀ j, rest[j]? = ops[i + j]?) → Sim w0 G X Lo n c0 c st a →
    wpOps P ops (Post w0 G X Lo n c0 e st') (List.range' i rest.length) a c.w
  | [], i, st, t, c, a, h, _, hs => by
    simp only [aOps, Option.some.injEq, Prod.mk.injEq] at h
    obtain ⟨rfl, rfl, _⟩ := h
    exact ⟨c, rfl, hs, rfl⟩
  | o :: rest, i, st, t, c, a, h, hl, hs => by
    have h0 : ops[i]? = some o := by simpa using (hl 0).symm
    have hl' : ∀ j, rest[j]? = ops[i + 1 + j]? := fun j => by have := hl (j + 1); simpa [Nat.add_assoc, Nat.add_comm 1 j] using this
    rw [List.length_cons, List.range'_succ]
    simp only [wpOps, h0]
    simp only [aOps] at h
    split at h
    · cases h
    · rename_i hw
      rw [if_neg (by rw [wanted_ok hs.fr hw]; decide)]
      split at h
      · rename_i st1 hp
        exact ops_ok hF rest (i + 1) st1 t c _ h hl' (hs.skip hp)
      · cases h
    · rename_i hw
      rw [if_pos (wanted_ok hs.fr hw)]
      refine .inl ?_
      split at h
      · cases h
      · rename_i v ds hop
        split at h
        · rename_i st1 hp
          exact op_ok hF hs.wr hs.S hs.fr hop _ _ (fun u c1 g1 g2 g3 g4 => ops_ok hF rest (i + 1) st1 _ c1 _ h hl' (hs.put hp g1 g2 g3 g4))
        · cases h
      · rename_i f args hop
        split at h
        · rename_i st1 hp
          refine op_ok hF hs.wr hs.S hs.fr hop _ _ (fun fv vs fn cap first g1 g2 g3 => ?_)
          have hs1 : Sim w0 G X Lo n c0 c { st1 with df := (f, args) :: st1.df } ({ a with defers := { target := .fn fn cap, args := first ++ vs.toArray } :: a.defers }.put o.dst Go.undef) := by
            have hs2 := hs.skip hp
            refine ⟨hs2.S, hs2.wr, hs2.le, ?_, ?_⟩
            · have e1 : ({ a with defers := { target := .fn fn cap, args := first ++ vs.toArray } :: a.defers }.put o.dst Go.undef).tmps = (a.put o.dst Go.undef).tmps := by cases o.dst <;> rfl
              rw [e1]; exact hs2.fr
            · rw [Act.put_dfs]
              have e2 := hs2.df
              rw [Act.put_dfs] at e2
              exact ⟨⟨fn, first, cap, vs, g3 ▸ g1, g2, rfl⟩, e2⟩
          exact ops_ok hF rest (i + 1) _ t c _ h hl' hs1
        · cases h
      · rename_i v ds hop
        simp only [Option.some.injEq, Prod.mk.injEq] at h
        obtain ⟨rfl, rfl, _⟩ := h
        refine op_ok hF hs.wr hs.S hs.fr hop _ _ (fun u c1 g1 g2 g3 g4 => ?_)
        exact ⟨c1, rfl, ⟨by rw [g1, hs.S], g2, hs.le.trans g3, hs.fr.mono g3, hs.df.mono g3⟩, u, g4, rfl⟩

/-- Only some blocks are kept in mind. -/
theorem look_keepFr : ∀ {fr : List (Nat × AV)} {ks : List Nat} {i : Nat} {v : AV}, look (keepFr fr ks) i = some v → look fr i = some v
  | fr, [], i, v, h => by simp [keepFr, look] at h
  | fr, k :: ks, i, v, h => by
    simp only [keepFr] at h
    split at h
    · rename_i x hx
      rw [look_cons] at h
      split at h
      · rename_i e; subst e; cases h; exact hx
      · exact look_keepFr h
    · exact look_keepFr h

theorem look_keepBs {bs : List (Nat × Blk)} : ∀ {ks : List Nat} {i : Nat}, look (keepBs bs ks) i = if i ∈ ks then look bs i else none
  | [], i => by simp [keepBs, look]
  | k :: ks, i => by
    simp only [keepBs]
    split
    · rename_i x hx
      rw [look_cons]
      by_cases e : k = i
      · subst e; simp [hx]
      · rw [if_neg e, look_keepBs]
        have : i ≠ k := fun h => e h.symm
        simp [this]
    · rename_i hx
      rw [look_keepBs]
      by_cases e : i = k
      · subst e; simp [hx]
      · simp [e]

theorem mem_keys_of_look {α : Type} : ∀ {l : List (Nat × α)} {i : Nat} {x : α}, look l i = some x → i ∈ l.map (·.1)
  | [], _, _, h => by simp [look] at h
  | (j, a) :: r, i, x, h => by
    rw [look_cons] at h
    split at h
    · rename_i e; simp [e]
    · simp [mem_keys_of_look h]

theorem look_of_mem_keys {α : Type} : ∀ {l : List (Nat × α)} {i : Nat}, i ∈ l.map (·.1) → ∃ x, look l i = some x
  | [], _, h => by simp at h
  | (j, a) :: r, i, h => by
    rw [look_cons]
    by_cases e : j = i
    · exact ⟨a, by simp [e]⟩
    · simp only [List.map_cons, List.mem_cons] at h
      rcases h with h | h
      · exact absurd h.symm e
      · obtain ⟨x, hx⟩ := look_of_mem_keys h
        exact ⟨x, by rw [if_neg e]; exact hx⟩

theorem mem_of_look {α : Type} : ∀ {l : List (Nat × α)} {i : Nat} {x : α}, look l i = some x → (i, x) ∈ l
  | [], _, _, h => by simp [look] at h
  | (j, a) :: r, i, x, h => by
    rw [look_cons] at h
    split at h
    · rename_i e; cases h; simp [e]
    · exact List.mem_cons_of_mem _ (mem_of_look h)

structure Keep (c c' : Cx) : Prop where
  w : c'.w = c.w
  R : c'.R = c.R
  F : ∀ i, c'.F i → c.F i
  S : ∀ b x, look c'.S b = some x → look c.S b = some x

theorem Keep.pv {c c' : Cx} (K : Keep c c') {a : AV} {v : Value} (h : PV c.w c.F a v) : PV c'.w c'.F a v :=
  h.mono (by rw [K.w]; exact Nat.le_refl _) (fun i _ hf hf' => hf (K.F i hf')) (fun i _ _ => by rw [K.w])

theorem Keep.v1 {c c' : Cx} (K : Keep c c') {ks : List Nat} (hks : ∀ b ∈ ks, look c'.S b = look c.S b) {a : AV} {v : Value} (hr : ok1 ks a = true) (h : V c a v) : V c' a v := by
  cases h with
  | pure h => exact .pure (K.pv h)
  | agg => cases hr
  | tup => cases hr
  | sref b w off len val hone x hb hv h =>
    have : b ∈ ks := by simpa [ok1] using hr
    refine .sref b w off len _ hone x (by rw [hks b this]; exact hb) hv (fun e k => ?_)
    rw [K.w, K.R]; exact h e k
  | ptr b w i off val hone x hb hv h =>
    have : b ∈ ks := by simpa [ok1] using hr
    refine .ptr b w i off _ hone x (by rw [hks b this]; exact hb) hv (fun e => ?_)
    rw [K.R]; exact h e
  | eptr e off b o vals hb hF hl hc ha hv =>
    exact .eptr e off b o vals (by rw [K.w]; exact hb) (fun h => hF (K.F _ h)) hl hc (fun k v hk => by rw [K.w]; exact ha k v hk) (fun k a v h1 h2 => K.pv (hv k a v h1 h2))
  | fn f fs cs vfs vcs hl1 hl2 h1 h2 =>
    cases fs with
    | cons => simp [ok1] at hr
    | nil => cases cs with
      | cons => simp [ok1] at hr
      | nil => exact .fn f [] [] vfs vcs hl1 hl2 (fun i a u g1 => by simp at g1) (fun i a u g1 => by simp at g1)

theorem Keep.vK {c c' : Cx} (K : Keep c c') {ks : List Nat} (hks : ∀ b ∈ ks, look c'.S b = look c.S b) {a : AV} {v : Value} (hr : okK ks a = true) (h : V c a v) : V c' a v := by
  cases a with
  | fn f fs cs =>
    obtain ⟨vfs, vcs, rfl, l1, l2, p1, p2⟩ := h.fn_inv
    simp only [okK, Bool.and_eq_true] at hr
    exact .fn f fs cs vfs vcs l1 l2 (fun i a u g1 g2 => K.v1 hks (List.all_eq_true.1 hr.1 a (List.mem_of_getElem? g1)) (p1 i a u g1 g2))
      (fun i a u g1 g2 => K.v1 hks (List.all_eq_true.1 hr.2 a (List.mem_of_getElem? g1)) (p2 i a u g1 g2))
  | _ => exact K.v1 hks hr h

theorem Keep.vA {c c' : Cx} (K : Keep c c') {ks : List Nat} (hks : ∀ b ∈ ks, look c'.S b = look c.S b) {a : AV} {v : Value} (hr : okA ks a = true) (h : V c a v) : V c' a v := by
  cases a with
  | agg cs =>
    obtain ⟨vs, rfl, h1, h2, h3⟩ := h.agg_inv
    exact .agg cs vs h1 h2 (fun i a u g1 g2 => K.vK hks (List.all_eq_true.1 hr a (List.mem_of_getElem? g1)) (h3 i a u g1 g2))
  | _ => exact K.vK hks hr h

theorem Keep.v {c c' : Cx} (K : Keep c c') {ks : List Nat} (hks : ∀ b ∈ ks, look c'.S b = look c.S b) {a : AV} {v : Value} (hr : okRefs ks a = true) (h : V c a v) : V c' a v := by
  cases a with
  | tup cs =>
    obtain ⟨vs, rfl, h1, h3⟩ := h.tup_inv
    exact .tup cs vs h1 (fun i a u g1 g2 => K.vA hks (List.all_eq_true.1 hr a (List.mem_of_getElem? g1)) (h3 i a u g1 g2))
  | _ => exact K.vA hks hr h

theorem mem_addNew' : ∀ (l acc : List Nat) (x : Nat), x ∈ acc ∨ x ∈ l → x ∈ addNew acc l
  | [], acc, x, h => by
    rcases h with h | h
    · exact h
    · simp at h
  | y :: r, acc, x, h => by
    unfold addNew
    split
    · rename_i hc
      refine mem_addNew' r acc x ?_
      rcases h with h | h
      · exact .inl h
      · rcases List.mem_cons.1 h with rfl | h
        · exact .inl (by simpa using hc)
        · exact .inr h
    · refine mem_addNew' r _ x ?_
      rcases h with h | h
      · exact .inl (by simp [h])
      · rcases List.mem_cons.1 h with rfl | h
        · exact .inl (by simp)
        · exact .inr h

theorem restrict0_ok {n : Nat} {c0 c : Cx} {st st' : St} {a : Act} {k : Option (List Nat × List Nat)} (h0 : ∀ b x, look c0.S b = some x → outBase ≤ b) (h : Sim w0 G X Lo n c0 c st a)
    (hr : restrict0 k st = some st') : ∃ c', c'.w = c.w ∧ Sim w0 G X Lo n c0 c' st' a := by
  unfold restrict0 at hr
  split at hr
  · cases hr; exact ⟨c, rfl, h⟩
  · rename_i fs ks
    dsimp only at hr
    generalize hks : addNew [] (ks ++ (st.bs.map (·.1)).filter (outBase ≤ ·)) = ks' at hr
    split at hr
    · rename_i hok
      cases hr
      simp only [Bool.and_eq_true] at hok
      obtain ⟨⟨ok1, ok2⟩, ok3⟩ := hok
      let c' : Cx := { w := c.w, R := c.R, S := keepBs st.bs ks', F := fOf X c.R (keepBs st.bs ks') }
      have hlk : ∀ b, look c'.S b = if b ∈ ks' then look c.S b else none := fun b => by
        show look (keepBs st.bs ks') b = _
        rw [look_keepBs, h.S]
      have hsub : ∀ b x, look c'.S b = some x → look c.S b = some x := by
        intro b x hb
        rw [hlk] at hb
        split at hb
        · exact hb
        · cases hb
      have K : Keep c c' := by
        refine ⟨rfl, rfl, ?_, hsub⟩
        rintro i (hx | ⟨b, x, g1, g2, g3, g4⟩)
        · exact (h.wr.hF i).2 (.inl hx)
        · exact (h.wr.hF i).2 (.inr ⟨b, x, hsub b x g1, g2, g3, g4⟩)
      have hall : ∀ b ∈ (keepBs st.bs ks').map (·.1), look c'.S b = look c.S b := by
        intro b hb
        obtain ⟨x, hx⟩ := look_of_mem_keys hb
        have hx' : look c'.S b = some x := hx
        rw [hx', hsub b x hx']
      refine ⟨c', rfl, rfl, ?_, ?_, ?_, ?_⟩
      · refine ⟨h.wr.size, h.wr.kept, h.wr.os, h.wr.out, h.wr.xs, fun b x hb hd => h.wr.own b x (hsub b x hb) hd, fun b x hb hd => h.wr.low b x (hsub b x hb) hd,
          fun b b' x x' hb hd hb' hd' e => h.wr.inj b b' x x' (hsub b x hb) hd (hsub b' x' hb') hd' e, fun b x hb hd => ?_, fun _ => Iff.rfl⟩
        obtain ⟨cells, t, lo, hi, g1, g2, g3, g4⟩ := (h.wr.blk b x (hsub b x hb) hd).here
        refine ⟨cells, t, lo, hi, g1, g2, fun hk => ?_, fun hk => ⟨(g4 hk).1, fun k a ha => let ⟨v, v1, v2⟩ := (g4 hk).2 k a ha; ⟨v, v1, K.pv v2⟩⟩⟩
        intro k a ha
        obtain ⟨q1, v, q2, q3⟩ := g3 hk k a ha
        have := List.all_eq_true.1 ok2 (b, x) (mem_of_look hb)
        simp only [hk] at this
        exact ⟨q1, v, q2, K.v hall (List.all_eq_true.1 this a (List.mem_of_getElem? ha)) q3⟩
      · refine ⟨h.le.size, fun b hb hf hf' => h.le.hF b hb hf (K.F b hf'), h.le.hw, fun b x hx => ?_⟩
        obtain ⟨x', g1, g2, g3⟩ := h.le.hS b x hx
        refine ⟨x', ?_, g2, g3⟩
        rw [hlk, if_pos ?_]
        · exact g1
        · rw [← hks]
          refine mem_addNew' _ _ _ (.inr (List.mem_append.2 (.inr (List.mem_filter.2 ⟨?_, by simpa using h0 b x hx⟩))))
          rw [← h.S]; exact mem_keys_of_look g1
      · refine ⟨h.fr.size, fun t v ht => h.fr.lt t v (look_keepFr ht), fun t v ht => ?_⟩
        exact K.v hall (List.all_eq_true.1 ok1 (t, v) (mem_of_look ht)) (h.fr.rel t v (look_keepFr ht))
      · have key : ∀ (df : List (AV × List AV)) (ds : List Deferred), (df.all fun x => okRefs ((keepBs st.bs ks').map (·.1)) x.1 && x.2.all (okRefs ((keepBs st.bs ks').map (·.1)))) = true → DfR c df ds → DfR c' df ds := by
          intro df
          induction df with
          | nil => intro ds _ hd; cases ds with
            | nil => trivial
            | cons => exact hd.elim
          | cons p r ih =>
            obtain ⟨f, args⟩ := p
            intro ds hall' hd
            cases ds with
            | nil => exact hd.elim
            | cons d ds =>
              simp only [List.all_cons, Bool.and_eq_true] at hall'
              obtain ⟨⟨fn, first, cap, vs, h1, h2, h3⟩, h4⟩ := hd
              exact ⟨⟨fn, first, cap, vs, K.v hall hall'.1.1 h1, ⟨h2.1, fun i a u g1 g2 => K.v hall (List.all_eq_true.1 hall'.1.2 a (List.mem_of_getElem? g1)) (h2.2 i a u g1 g2)⟩, h3⟩, ih ds hall'.2 h4⟩
        exact key _ _ ok3 h.df
    · cases hr

theorem look_mapV {α β : Type} {f : α → Option β} : ∀ {l : List (Nat × α)} {r : List (Nat × β)}, mapV f l = some r → ∀ i, match look l i with
    | some a => ∃ b, f a = some b ∧ look r i = some b
    | none => look r i = none
  | [], r, h, i => by cases h; simp [look]
  | (j, a) :: l, r, h, i => by
    unfold mapV at h
    split at h
    · rename_i b hb
      split at h
      · rename_i q hq
        cases h
        by_cases hji : j = i
        · have e1 : look ((j, a) :: l) i = some a := by simp [look, hji]
          rw [e1]
          exact ⟨b, hb, by simp [look, hji]⟩
        · have e1 : look ((j, a) :: l) i = look l i := by simp [look, hji]
          have e2 : look ((j, b) :: q) i = look q i := by simp [look, hji]
          rw [e1, e2]
          exact look_mapV hq i
      · cases h
    · cases h

theorem look_mapV_back {α β : Type} {f : α → Option β} {l : List (Nat × α)} {r : List (Nat × β)} (h : mapV f l = some r) {i : Nat} {b : β} (hb : look r i = some b) : ∃ a, look l i = some a ∧ f a = some b := by
  have := look_mapV h i
  cases hl : look l i with
  | none => rw [hl] at this; simp only at this; rw [this] at hb; cases hb
  | some a =>
    rw [hl] at this
    obtain ⟨b', h1, h2⟩ := this
    rw [h2] at hb
    cases hb
    exact ⟨a, rfl, h1⟩

theorem vzero_ok {n : Nat} {c0 c : Cx} {st st' : St} {a : Act} (h0 : ∀ b x, look c0.S b = some x → outBase ≤ b) (h : Sim w0 G X Lo n c0 c st a)
    (hr : vzero st = some st') : ∃ c', c'.w = c.w ∧ Sim w0 G X Lo n c0 c' st' a := by
  unfold vzero at hr
  split at hr
  case isFalse => cases hr
  rename_i hver
  dsimp only at hr
  generalize hm : (fun b v => match ldBlk st.bs b v with
      | some _ => some (Nm.key b 0)
      | none => none) = m at hr
  split at hr
  case h_1 => cases hr
  rename_i fr hfr
  split at hr
  case h_1 => cases hr
  rename_i bs hbs
  split at hr
  case h_1 => cases hr
  rename_i df hdf
  cases hr
  let c' : Cx := { w := c.w, F := c.F, R := c.R, S := bs }
  have hS := h.S
  have hback : ∀ b y, look c'.S b = some y → ∃ x, look c.S b = some x ∧ renBlk m x = some y := by
    intro b y hy
    obtain ⟨x, h1, h2⟩ := look_mapV_back hbs hy
    exact ⟨x, by rw [hS]; exact h1, h2⟩
  have hforw : ∀ b x, look c.S b = some x → ∃ y, look c'.S b = some y ∧ renBlk m x = some y := by
    intro b x hx
    have := look_mapV hbs b
    rw [hS] at hx
    rw [hx] at this
    obtain ⟨y, h1, h2⟩ := this
    exact ⟨y, h2, h1⟩
  have hren : Ren c c' m := by
    refine ⟨Nat.le_refl _, fun _ _ hf => hf, fun _ _ _ => rfl, fun b v nm hnm => ?_⟩
    rw [← hm] at hnm
    simp only at hnm
    split at hnm
    · rename_i x hx
      cases hnm
      unfold ldBlk at hx
      split at hx
      · rename_i x' hx'
        split at hx
        · rename_i hv
          cases hx
          rw [← hS] at hx'
          obtain ⟨y, h1, h2⟩ := hforw b x hx'
          obtain ⟨y1, y2, y3, y4, y5, y6⟩ := renBlk_some h2
          refine ⟨x, hx', hv.1, y, h1, Nat.zero_le _, fun _ _ => ⟨y2, rfl, y4, fun hk => by rw [y5 hk], fun cells t f hc => ⟨cells, t, f, hc, rfl⟩⟩⟩
        · cases hx
      · cases hx
    · cases hnm
  refine ⟨c', rfl, rfl, ?_, ?_, ?_, ?_⟩
  · have hw := h.wr
    refine ⟨hw.size, hw.kept, hw.os, hw.out, hw.xs, ?_, ?_, ?_, ?_, ?_⟩
    · intro b y hy hd
      obtain ⟨x, h1, h2⟩ := hback b y hy
      obtain ⟨_, y2, y3, _⟩ := renBlk_some h2
      rw [y2] at hd
      have := hw.own b x h1 hd
      rw [y3]
      exact this
    · intro b y hy hd
      obtain ⟨x, h1, h2⟩ := hback b y hy
      obtain ⟨_, y2, _⟩ := renBlk_some h2
      rw [y2] at hd
      exact hw.low b x h1 hd
    · intro b b' y y' hy hd hy' hd' e
      obtain ⟨x, h1, h2⟩ := hback b y hy
      obtain ⟨x', h1', h2'⟩ := hback b' y' hy'
      rw [(renBlk_some h2).2.1] at hd
      rw [(renBlk_some h2').2.1] at hd'
      exact hw.inj b b' x x' h1 hd h1' hd' e
    · intro b y hy hd
      obtain ⟨x, h1, h2⟩ := hback b y hy
      obtain ⟨y1, y2, y3, y4, y5, y6⟩ := renBlk_some h2
      rw [y2] at hd
      obtain ⟨cells, t, lo, hi, g1, g2, g3, g4⟩ := (hw.blk b x h1 hd).here
      refine ⟨cells, t, lo, hi, g1, by rw [y4]; exact g2, fun hk => ?_, fun hk => ?_⟩
      · rw [y2] at hk
        exact mapO_renD_content (fun a a' v _ _ hv hr => renD_ok hren hv hr) (y6 hk) (g3 hk)
      · rw [y2] at hk
        rw [y5 hk, y4]
        exact g4 hk
    · intro i
      rw [show c'.F i ↔ c.F i from Iff.rfl, hw.hF i]
      constructor
      · rintro (hx | ⟨b, x, q1, q2, q3, q4⟩)
        · exact .inl hx
        · obtain ⟨y, h1, h2⟩ := hforw b x q1
          obtain ⟨_, y2, y3, _⟩ := renBlk_some h2
          exact .inr ⟨b, y, h1, by rw [y2]; exact q2, by rw [y3]; exact q3, q4⟩
      · rintro (hx | ⟨b, y, q1, q2, q3, q4⟩)
        · exact .inl hx
        · obtain ⟨x, h1, h2⟩ := hback b y q1
          obtain ⟨_, y2, y3, _⟩ := renBlk_some h2
          exact .inr ⟨b, x, h1, by rw [← y2]; exact q2, by rw [← y3]; exact q3, q4⟩
  · refine ⟨h.le.size, h.le.hF, h.le.hw, fun b x hx => ?_⟩
    obtain ⟨x1, g1, g2, g3⟩ := h.le.hS b x hx
    obtain ⟨y, h1, h2⟩ := hforw b x1 g1
    obtain ⟨y1, y2, y3, y4, y5, y6⟩ := renBlk_some h2
    have hb := h0 b x hx
    have hx1 : x1.v = 0 := by
      rw [hS] at g1
      have := List.all_eq_true.1 hver (b, x1) (mem_of_look g1)
      simp only [Bool.or_eq_true, decide_eq_true_eq] at this
      rcases this with h | h
      · omega
      · exact h
    refine ⟨y, h1, by omega, fun hv hd => ?_⟩
    rw [y2] at hd
    obtain ⟨k1, k2, k3, k4, k5, k6⟩ := g3 (by omega) hd
    refine ⟨k1.trans y2.symm, k2, y4.trans k3, fun hk => ?_, fun hf => by rw [y3]; exact k5 hf, k6⟩
    rw [y5 (by rw [← k1]; exact hk)]
    exact k4 hk
  · refine ⟨h.fr.size, fun t v ht => ?_, fun t v ht => ?_⟩
    · obtain ⟨x, h1, _⟩ := look_mapV_back hfr ht
      exact h.fr.lt t x h1
    · obtain ⟨x, h1, h2⟩ := look_mapV_back hfr ht
      exact renT_ok hren (h.fr.rel t x h1) h2
  · have hl : ∀ {as bs : List AV} {vs : List Value}, VL c as vs → mapO (renT m) as = some bs → VL c' bs vs := by
      intro as bs vs hv hm
      obtain ⟨e1, e2⟩ := mapO_get hm
      refine ⟨e1.trans hv.1, fun i x v hx hvv => ?_⟩
      obtain ⟨y, hy, hr⟩ := e2 i x hx
      exact renT_ok hren (hv.2 i y v hy hvv) hr
    have key : ∀ (l : List (AV × List AV)) (r : List (AV × List AV)) (ds : List Deferred), mapO (fun x => match renT m x.1 with
          | some f => match mapO (renT m) x.2 with
            | some l => some (f, l)
            | none => none
          | none => none) l = some r → DfR c l ds → DfR c' r ds := by
      intro l
      induction l with
      | nil => intro r ds hm hd; cases hm; cases ds with
        | nil => trivial
        | cons => exact hd.elim
      | cons p l ih =>
        intro r ds hm hd
        unfold mapO at hm
        split at hm
        · rename_i q hq
          split at hm
          · rename_i r' hr'
            cases hm
            cases ds with
            | nil => exact hd.elim
            | cons d ds =>
              obtain ⟨⟨fn, first, cap, vs, h1, h2, h3⟩, h4⟩ := hd
              split at hq
              · rename_i f hf
                split at hq
                · rename_i l' hl'
                  cases hq
                  exact ⟨⟨fn, first, cap, vs, renT_ok hren h1 hf, hl h2 hl', h3⟩, ih r' ds hr' h4⟩
                · cases hq
              · cases hq
          · cases hm
        · cases hm
    exact key _ _ _ hdf h.df

theorem restrict_ok {n : Nat} {c0 c : Cx} {st st' : St} {a : Act} {k : Option (List Nat × List Nat)} (h0 : ∀ b x, look c0.S b = some x → outBase ≤ b) (h : Sim w0 G X Lo n c0 c st a)
    (hr : restrict k st = some st') : ∃ c', c'.w = c.w ∧ Sim w0 G X Lo n c0 c' st' a := by
  unfold restrict at hr
  split at hr
  · cases hr; exact ⟨c, rfl, h⟩
  · split at hr
    · rename_i s hs
      obtain ⟨c1, e1, h1⟩ := restrict0_ok h0 h hs
      obtain ⟨c2, e2, h2⟩ := vzero_ok h0 h1 hr
      exact ⟨c2, e2.trans e1, h2⟩
    · cases hr

/-- Are the drawn regions good? -/
def codeOk (reg : Nat → Array Oper → Bool) : Code → Bool
  | .region id ops true => reg id ops
  | .seq a b => codeOk reg a && codeOk reg b
  | .cond _ a b => codeOk reg a && codeOk reg b
  | .block _ b => codeOk reg b
  | .loop b => codeOk reg b
  | _ => true

/-- What is to be shown of a drawn region. -/
def DrawOk (P : Program) (cfg : Cfg) (callF : CallF) (reg : FuncId → Nat → Array Oper → Bool) : Prop :=
  ∀ (f : FuncId) (n id : Nat) (ops : Array Oper), reg f id ops = true → ∀ (w0 : World) (G X Lo : Nat → Prop) (c0 c : Cx) (st st' : St) (a : Act) (e : Ex), aRegion P cfg callF f n id ops true st = some (e, st') → Sim w0 G X Lo n c0 c st a →
    (Code.region id ops true).wp P (Post w0 G X Lo n c0 e st') a c.w

theorem exists_least {p : Nat → Prop} (h : ∃ n, p n) : ∃ n, p n ∧ ∀ m, p m → n ≤ m := by
  obtain ⟨n, hn⟩ := h
  induction n using Nat.strongRecOn with
  | _ n ih =>
    by_cases hm : ∃ m, m < n ∧ p m
    · obtain ⟨m, h1, h2⟩ := hm
      exact ih m h1 h2
    · refine ⟨n, hn, fun m h => ?_⟩
      rcases Nat.lt_or_ge m n with hlt | hge
      · exact absurd ⟨m, hlt, h⟩ hm
      · exact hge

open Classical in
theorem loop_ok {n : Nat} {c0 : Cx} {b : Code} {res : St → Option St} {body : St → Option (Ex × St)} {e : Ex} {st' : St}
    (hres : ∀ st st1 c a, res st = some st1 → Sim w0 G X Lo n c0 c st a → ∃ c', c'.w = c.w ∧ Sim w0 G X Lo n c0 c' st1 a)
    (hbody : ∀ st e1 st1 c a, body st = some (e1, st1) → Sim w0 G X Lo n c0 c st a → b.wp P (Post w0 G X Lo n c0 e1 st1) a c.w)
    {k : Nat} {st : St} {c : Cx} {a : Act} (h : aLoop res body k st = some (e, st')) (hs : Sim w0 G X Lo n c0 c st a) : (Code.loop b).wp P (Post w0 G X Lo n c0 e st') a c.w := by
  let Inv : Nat → Act → World → Prop := fun k a w => ∃ st c, c.w = w ∧ aLoop res body k st = some (e, st') ∧ Sim w0 G X Lo n c0 c st a
  let μ : Act → World → Nat := fun a w => if h : ∃ k, Inv k a w then Classical.choose (exists_least h) else 0
  refine wp_loop (fun a w => ∃ k, Inv k a w) μ ⟨k, st, c, rfl, h, hs⟩ ?_
  intro a w hI
  have hμ : μ a w = Classical.choose (exists_least hI) := dif_pos hI
  obtain ⟨st1, c1, hw, hl, hs1⟩ := (Classical.choose_spec (exists_least hI)).1
  rw [hμ]
  generalize Classical.choose (exists_least hI) = k at hl
  cases k with
  | zero => simp [aLoop] at hl
  | succ k =>
    simp only [aLoop] at hl
    split at hl
    · cases hl
    · rename_i st2 h2
      obtain ⟨c2, hw2, hs2⟩ := hres _ _ _ _ h2 hs1
      split at hl
      · rename_i st3 h3
        have := hbody _ _ _ _ _ h3 hs2
        rw [hw2, hw] at this
        refine wp_mono this ?_
        rintro ex a' w' ⟨c3, hw3, hs3, hex⟩
        have hex : ex = .normal := hex
        subst hex
        have hI' : ∃ k, Inv k a' w' := ⟨k, st3, c3, hw3, hl, hs3⟩
        refine ⟨hI', ?_⟩
        have : μ a' w' = Classical.choose (exists_least hI') := dif_pos hI'
        rw [this]
        exact Nat.lt_succ_of_le ((Classical.choose_spec (exists_least hI')).2 _ ⟨st3, c3, hw3, hl, hs3⟩)
      · rename_i hnn
        cases hb : body st2 with
        | none => rw [hb] at hl; cases hl
        | some p =>
          obtain ⟨e1, st3⟩ := p
          rw [hb] at hl
          cases hl
          have := hbody _ _ _ _ _ hb hs2
          rw [hw2, hw] at this
          refine wp_mono this ?_
          rintro ex a' w' ⟨c3, hw3, hs3, hex⟩
          cases e with
          | norm => exact absurd hb (hnn _)
          | exit id => cases hex; exact ⟨c3, hw3, hs3, rfl⟩
          | ret => cases hex; exact ⟨c3, hw3, hs3, rfl⟩
          | pan v =>
            obtain ⟨u, hu, rfl⟩ := hex
            exact ⟨c3, hw3, hs3, u, hu, rfl⟩

theorem code_ok {callF : CallF} (hF : FnOk P callF) {cfg : Cfg} {reg : FuncId → Nat → Array Oper → Bool} (hD : DrawOk P cfg callF reg) {f : FuncId} {n : Nat} {c0 : Cx} (h0 : ∀ b x, look c0.S b = some x → outBase ≤ b) :
    ∀ (code : Code) (m : Nat) (st : St) (e : Ex) (st' : St) (c : Cx) (a : Act), codeOk (reg f) code = true → aCode P cfg callF f n m code st = some (e, st') → Sim w0 G X Lo n c0 c st a →
      code.wp P (Post w0 G X Lo n c0 e st') a c.w := by
  intro code
  induction code with
  | skip =>
    intro m st e st' c a _ h hs
    simp only [aCode, Option.some.injEq, Prod.mk.injEq] at h
    obtain ⟨rfl, rfl⟩ := h
    exact wp_skip ⟨c, rfl, hs, rfl⟩
  | label l =>
    intro m st e st' c a _ h hs
    simp only [aCode, Option.some.injEq, Prod.mk.injEq] at h
    obtain ⟨rfl, rfl⟩ := h
    exact wp_label ⟨c, rfl, hs, rfl⟩
  | exit id =>
    intro m st e st' c a _ h hs
    simp only [aCode, Option.some.injEq, Prod.mk.injEq] at h
    obtain ⟨rfl, rfl⟩ := h
    exact wp_exit ⟨c, rfl, hs, rfl⟩
  | ret =>
    intro m st e st' c a _ h hs
    simp only [aCode, Option.some.injEq, Prod.mk.injEq] at h
    obtain ⟨rfl, rfl⟩ := h
    exact wp_ret ⟨c, rfl, hs, rfl⟩
  | region id ops draw =>
    intro m st e st' c a hk h hs
    simp only [aCode] at h
    cases draw with
    | true => exact hD f n id ops hk _ _ _ _ _ _ _ _ _ _ h hs
    | false =>
      simp only [aRegion, Bool.false_eq_true, if_false] at h
      split at h
      · rename_i e1 st1 t1 h1
        cases h
        refine wp_region ?_
        rw [List.range_eq_range']
        have := ops_ok hF ops.toList 0 st [] c a h1 (fun j => by simp) hs
        simpa using this
      · cases h
  | seq x y ihx ihy =>
    intro m st e st' c a hk h hs
    simp only [codeOk, Bool.and_eq_true] at hk
    simp only [aCode] at h
    split at h
    · rename_i st1 h1
      refine wp_seq (wp_mono (ihx m st .norm st1 c a hk.1 h1 hs) ?_)
      rintro ex a' w' ⟨c1, hw, hs1, hex⟩
      have hex : ex = .normal := hex
      subst hex
      show y.wp P _ a' w'
      rw [← hw]
      exact ihy m st1 e st' c1 a' hk.2 h hs1
    · rename_i hnn
      refine wp_seq (wp_mono (ihx m st e st' c a hk.1 h hs) ?_)
      rintro ex a' w' ⟨c1, hw, hs1, hex⟩
      cases e with
      | norm => exact absurd h (hnn _)
      | exit id => cases hex; exact ⟨c1, hw, hs1, rfl⟩
      | ret => cases hex; exact ⟨c1, hw, hs1, rfl⟩
      | pan v =>
        obtain ⟨u, hu, rfl⟩ := hex
        exact ⟨c1, hw, hs1, u, hu, rfl⟩
  | cond q x y ihx ihy =>
    intro m st e st' c a hk h hs
    simp only [codeOk, Bool.and_eq_true] at hk
    simp only [aCode] at h
    split at h
    · rename_i t ht
      have hq := ht ▸ ev_ok hs.fr q
      cases t with
      | true => exact wp_cond_true hq.bool_inv (ihx m st e st' c a hk.1 h hs)
      | false => exact wp_cond_false hq.bool_inv (ihy m st e st' c a hk.2 h hs)
    · cases h
  | block id x ih =>
    intro m st e st' c a hk h hs
    simp only [codeOk] at hk
    simp only [aCode] at h
    split at h
    · rename_i j st1 h1
      refine wp_block (wp_mono (ih id st (.exit j) st1 c a hk h1 hs) ?_)
      rintro ex a' w' ⟨c1, hw, hs1, hex⟩
      have hex : ex = .exit j := hex
      subst hex
      show if j = id then _ else _
      split at h
      · rename_i hj
        cases h
        rw [if_pos hj]
        exact ⟨c1, hw, hs1, rfl⟩
      · rename_i hj
        cases h
        rw [if_neg hj]
        exact ⟨c1, hw, hs1, rfl⟩
    · rename_i hnn
      refine wp_block (wp_mono (ih id st e st' c a hk h hs) ?_)
      rintro ex a' w' ⟨c1, hw, hs1, hex⟩
      cases e with
      | exit id => exact absurd h (hnn _ _)
      | norm => cases hex; exact ⟨c1, hw, hs1, rfl⟩
      | ret => cases hex; exact ⟨c1, hw, hs1, rfl⟩
      | pan v =>
        obtain ⟨u, hu, rfl⟩ := hex
        exact ⟨c1, hw, hs1, u, hu, rfl⟩
  | loop x ih =>
    intro m st e st' c a hk h hs
    simp only [codeOk] at hk
    simp only [aCode] at h
    unfold exitX at h
    split at h
    · rename_i v s hl
      cases h
      exact loop_ok (fun st st1 c a hr hs => restrict_ok h0 hs hr) (fun st e1 st1 c a hb hs => ih m st e1 st1 c a hk hb hs) hl hs
    · rename_i e1 s hnp hl
      split at h
      · rename_i s' hr
        cases h
        refine wp_mono (loop_ok (fun st st1 c a hr hs => restrict_ok h0 hs hr) (fun st e1 st1 c a hb hs => ih m st e1 st1 c a hk hb hs) hl hs) ?_
        rintro ex a' w' ⟨c1, hw, hs1, hex⟩
        obtain ⟨c2, hw2, hs2⟩ := restrict_ok h0 hs1 hr
        refine ⟨c2, hw2.trans hw, hs2, ?_⟩
        cases e with
        | norm => exact hex
        | exit id => exact hex
        | ret => exact hex
        | pan v => exact (hnp v rfl).elim
      · cases h
    · cases h
  | _ => intro m st e st' c a hk h hs; simp [aCode] at h

end
end Go.Ab
/- Functions: what they leave. -/
namespace Go.Ab
open Go

section
variable {P : Program} {w0 : World} {G X Lo : Nat → Prop}

def resSem (tmps : Array Value) : ResultVar → Sem Value
  | .tmp t => pure (tmps.getD t Go.undef)
  | .cell b t => do loadVar t (← asAddr (tmps.getD b Go.undef))

theorem results_sem (fn : Func) (tmps : Array Value) : results fn tmps = (do let vs ← fn.results.mapM (resSem tmps); pure (if h : vs.size = 1 then vs[0] else .tuple vs)) := rfl

theorem results_ok {n : Nat} {c0 c : Cx} {st : St} {a : Act} (h : Sim w0 G X Lo n c0 c st a) : ∀ {l : List ResultVar} {vs : List AV}, mapO (resultOf P st) l = some vs →
    ∃ us : List Value, (List.mapM (resSem a.tmps) l).run P c.w = .ok us c.w ∧ VL c vs us
  | [], vs, hr => by simp [mapO] at hr; subst hr; exact ⟨[], by simp, VL.nil⟩
  | x :: l, vs, hr => by
    simp only [mapO] at hr
    split at hr
    · rename_i v hv
      split at hr
      · rename_i vs' hvs
        cases hr
        obtain ⟨us, h1, h2⟩ := results_ok h hvs
        cases x with
        | tmp t =>
          exact ⟨_ :: us, by rw [List.mapM_cons, Sem.run_bind]; simp only [resSem, Sem.run_pure, Result.andThen_ok]; rw [Sem.run_bind, h1]; rfl, VL.cons (h.fr.rel t v hv) h2⟩
        | cell b t =>
          simp only [resultOf, aLoad] at hv
          split at hv
          · rename_i cs off hc
            have hp : V c ((look st.fr b).getD .undef) (a.tmps.getD b Go.undef) := ev_ok h.fr (.tmp b)
            rw [← h.S] at hc
            obtain ⟨b', o, vals, e1, hl⟩ := cellsAt_lies h.wr hp hc
            obtain ⟨u, g1, g2⟩ := run_loadVar t hl hv
            refine ⟨u :: us, ?_, VL.cons g2 h2⟩
            have hb : (resSem a.tmps (.cell b t)).run P c.w = .ok u c.w := by
              simp only [resSem, e1, asAddr, Sem.run_bind, Sem.run_pure, Result.andThen_ok, g1]
            rw [List.mapM_cons, Sem.run_bind, hb, Result.andThen_ok, Sem.run_bind, h1]
            rfl
          · cases hv
      · cases hr
    · cases hr

theorem resultsOf_ok {n : Nat} {c0 c : Cx} {st : St} {a : Act} (h : Sim w0 G X Lo n c0 c st a) {fn : Func} {v : AV} (hr : resultsOf P st fn.results.toList = some v) :
    ∃ u, (results fn a.tmps).run P c.w = .ok u c.w ∧ V c v u := by
  unfold resultsOf at hr
  have key : ∀ us : List Value, (List.mapM (resSem a.tmps) fn.results.toList).run P c.w = .ok us c.w → (results fn a.tmps).run P c.w = .ok (if h : us.length = 1 then us[0] else .tuple us.toArray) c.w := by
    intro us hus
    have : fn.results = fn.results.toList.toArray := by simp
    rw [results_sem, this]
    simp only [List.mapM_toArray, Sem.run_bind]
    simp only [map_eq_pure_bind, Sem.run_bind]
    rw [hus]
    simp
  split at hr
  · rename_i v' hv
    cases hr
    obtain ⟨us, h1, h2⟩ := results_ok h hv
    obtain ⟨u, r, rfl, g1, g2⟩ := VL.of_cons h2
    have : r = [] := List.eq_nil_of_length_eq_zero (by simpa using g2.1.symm)
    subst this
    exact ⟨u, by rw [key _ h1]; simp, g1⟩
  · rename_i vs hn hv
    cases hr
    obtain ⟨us, h1, h2⟩ := results_ok h hv
    refine ⟨.tuple us.toArray, ?_, .tup vs us h2.1 h2.2⟩
    rw [key _ h1, dif_neg]
    intro he
    have := h2.1
    obtain ⟨x, hx⟩ := List.length_eq_one_iff.1 (this.trans he)
    exact hn x hx
  · cases hr

theorem leave_ok {n : Nat} {c0 c : Cx} {st : St} {a : Act} {out : List Blk} (hc0 : c0.S = outerSt out) (hout : ∀ x ∈ out, x.v = 0) (h : Sim w0 G X Lo n c0 c st a) {pan : Bool} {v : AV} {u : Value} (hv : V c v u) {r : Ret}
    (hr : leave st out.length pan v = some r) :
    r.pan = pan ∧ ∃ c', c'.w = c.w ∧ c'.S = outerSt r.out ++ withKeys newBase 0 r.new ∧ WR w0 G X Lo c' ∧ Le c0 c' ∧ V c' r.res u := by
  unfold leave at hr
  dsimp only at hr
  generalize hks : (closeR st.bs 3 (addNew [] (refsT v ++ ((List.range out.length).map (outBase + ·)).flatMap (blkRefs st.bs)))).filter (· < outBase) = ks at hr
  generalize hnm : (fun b w => match ldBlk st.bs b w with
    | some _ => if outBase ≤ b then (if b < outBase + out.length then some (Nm.key b 0) else none) else match idx? ks b 0 with
      | some i => some (Nm.key (newBase + i) 0)
      | none => none
    | none => none) = nm at hr
  split at hr
  · cases hr
  rename_i hchk
  have hlen : out.length ≤ 1000 := by
    rcases Nat.lt_or_ge 1000 out.length with h | h
    · exact absurd (.inr h) hchk
    · exact h
  have hv0 : ∀ i, i < out.length → ∃ x, look st.bs (outBase + i) = some x ∧ x.v = 0 := by
    intro i hi
    have h1 : (((List.range out.length).map (outBase + ·)).all fun b => match look st.bs b with
      | some x => decide (x.v = 0)
      | none => false) = true := by
      cases hh : (((List.range out.length).map (outBase + ·)).all fun b => match look st.bs b with
      | some x => decide (x.v = 0)
      | none => false) with
      | true => rfl
      | false => exact absurd (.inl hh) hchk
    have h2 := List.all_eq_true.1 h1 (outBase + i) (List.mem_map.2 ⟨i, List.mem_range.2 hi, rfl⟩)
    cases hl : look st.bs (outBase + i) with
    | none => rw [hl] at h2; cases h2
    | some x => rw [hl] at h2; exact ⟨x, rfl, by simpa using h2⟩
  split at hr
  · cases hr
  rename_i res hres
  split at hr
  · cases hr
  rename_i o ho
  split at hr
  · cases hr
  rename_i nw hn
  cases hr
  obtain ⟨o1, o2⟩ := mapN_get ho
  obtain ⟨n1, n2⟩ := mapN_get hn
  simp only [List.length_map, List.length_range] at o1
  have hnd : ks.Nodup := by
    rw [← hks]
    exact List.Nodup.sublist List.filter_sublist (closeR_nodup _ _ _ (addNew_nodup _ _ List.nodup_nil))
  have hko : ∀ k ∈ ks, k < outBase := by
    intro k hk
    rw [← hks] at hk
    simpa using (List.mem_filter.1 hk).2
  have hO : ∀ i, i < out.length → ∃ x y, look c.S (outBase + i) = some x ∧ x.v = 0 ∧ renBlk nm x = some y ∧ o[i]? = some y := by
    intro i hi
    obtain ⟨y, g1, g2⟩ := o2 i (outBase + i) (by simp [hi])
    obtain ⟨x, e1, e2⟩ := hv0 i hi
    unfold renAt at g1
    rw [e1] at g1
    exact ⟨x, y, by rw [h.S]; exact e1, e2, g1, g2⟩
  have hN : ∀ (i k : Nat), ks[i]? = some k → ∃ x y, look c.S k = some x ∧ renBlk nm x = some y ∧ nw[i]? = some y := by
    intro i k hk
    obtain ⟨y, g1, g2⟩ := n2 i k hk
    unfold renAt at g1
    split at g1
    · rename_i x hx; exact ⟨x, y, by rw [h.S]; exact hx, g1, g2⟩
    · cases g1
  let R' : Nat → Nat := fun e => if newBase ≤ e then (match ks[e - newBase]? with | some k => c.R k | none => 0) else c.R e
  let S' := outerSt o ++ withKeys newBase 0 nw
  let c' : Cx := { w := c.w, S := S', R := R', F := fOf X R' S' }
  have hlO : ∀ i y, o[i]? = some y → look S' (outBase + i) = some y := by
    intro i y hy
    show look (outerSt o ++ _) _ = _
    rw [look_app]
    have : look (outerSt o) (outBase + i) = some y := by
      show look (withKeys outBase 0 o) _ = _
      rw [look_withKeys, if_pos (by omega), show outBase + i - (outBase + 0) = i by omega]; exact hy
    rw [this]
  have hlN : ∀ i y, nw[i]? = some y → look S' (newBase + i) = some y := by
    intro i y hy
    show look (outerSt o ++ _) _ = _
    rw [look_app]
    have : look (outerSt o) (newBase + i) = none := by
      show look (withKeys outBase 0 o) _ = _
      rw [look_withKeys, if_pos (by unfold newBase outBase; omega)]
      exact List.getElem?_eq_none (by unfold newBase outBase; omega)
    rw [this, look_withKeys, if_pos (by omega), show newBase + i - (newBase + 0) = i by omega]; exact hy
  have hRO : ∀ i, i < out.length → R' (outBase + i) = c.R (outBase + i) := by
    intro i hi
    show (if newBase ≤ outBase + i then _ else _) = _
    rw [if_neg (by unfold newBase outBase; omega)]
  have hRN : ∀ (i k : Nat), ks[i]? = some k → R' (newBase + i) = c.R k := by
    intro i k hk
    show (if newBase ≤ newBase + i then _ else _) = _
    rw [if_pos (by omega), show newBase + i - newBase = i by omega, hk]
  have hcl : ∀ e y, look S' e = some y → ∃ k x, look c.S k = some x ∧ renBlk nm x = some y ∧ R' e = c.R k ∧ ((e = k ∧ outBase ≤ e ∧ e < newBase) ∨ (newBase ≤ e ∧ ks[e - newBase]? = some k ∧ k < outBase)) := by
    intro e y he
    have he' : look (withKeys outBase 0 o ++ withKeys newBase 0 nw) e = some y := he
    rw [look_app, look_withKeys, look_withKeys] at he'
    split at he'
    · rename_i x hx
      cases he'
      split at hx
      · rename_i hle
        have hlt := (List.getElem?_eq_some_iff.1 hx).1
        obtain ⟨x0, y0, g1, g2, g3, g4⟩ := hO (e - (outBase + 0)) (by omega)
        have : y0 = y := Option.some.inj (g4.symm.trans hx)
        subst this
        have ee : outBase + (e - (outBase + 0)) = e := by omega
        have hR := hRO (e - (outBase + 0)) (by omega)
        rw [ee] at g1 hR
        exact ⟨e, x0, g1, g3, hR, .inl ⟨rfl, by omega, by unfold newBase outBase at *; omega⟩⟩
      · cases hx
    · split at he'
      · rename_i hle
        have hlt := (List.getElem?_eq_some_iff.1 he').1
        have hk : ks[e - (newBase + 0)]? = some (ks[e - (newBase + 0)]'(by omega)) := List.getElem?_eq_getElem _
        obtain ⟨x0, y0, g1, g2, g3⟩ := hN _ _ hk
        have : y0 = y := Option.some.inj (g3.symm.trans he')
        subst this
        have ee : newBase + (e - (newBase + 0)) = e := by omega
        have hR := hRN _ _ hk
        rw [ee] at hR
        exact ⟨_, x0, g1, g2, hR, .inr ⟨by omega, hk, hko _ (List.mem_of_getElem? hk)⟩⟩
      · cases he'
  have hFsub : ∀ b, c'.F b → c.F b := by
    rintro b (hx | ⟨e, y, g1, g2, g3, g4⟩)
    · exact (h.wr.hF b).2 (.inl hx)
    · obtain ⟨k, x, k1, k2, k3, _⟩ := hcl e y g1
      obtain ⟨_, q2, q3, _⟩ := renBlk_some k2
      exact (h.wr.hF b).2 (.inr ⟨k, x, k1, by rw [← q2]; exact g2, by rw [← q3]; exact g3, by rw [← k3]; exact g4⟩)
  have hren : Ren c c' nm := by
    refine ⟨Nat.le_refl _, fun b _ hf hf' => hf (hFsub b hf'), fun _ _ _ => rfl, fun b w nn hh => ?_⟩
    rw [← hnm] at hh
    dsimp only at hh
    split at hh
    · rename_i x hx
      obtain ⟨k1, k2, k3⟩ := ldBlk_some hx
      have fin : ∀ e y, look S' e = some y → renBlk nm x = some y → R' e = c.R b → NmOk c c' b w (.key e 0) := by
        intro e y g1 g2 g3
        obtain ⟨q1, q2, q3, q4, q5, q6⟩ := renBlk_some g2
        refine ⟨x, by rw [h.S]; exact k1, k2, y, g1, Nat.zero_le _, fun _ _ => ⟨q2, g3, q4, fun hrow => by rw [q5 hrow], fun cells t fr hc => ⟨cells, t, fr, ?_, rfl⟩⟩⟩
        show c.w.heap[R' e]? = _
        rw [g3]; exact hc
      split at hh
      · rename_i hle
        split at hh
        case isFalse => cases hh
        rename_i hlt0
        cases hh
        have hlt : b - outBase < out.length := by omega
        obtain ⟨x0, y0, g1, g2, g3, g4⟩ := hO (b - outBase) hlt
        have ee : outBase + (b - outBase) = b := by omega
        have hl := hlO _ _ g4
        have hR := hRO _ hlt
        rw [ee] at g1 hl hR
        have : x0 = x := by rw [h.S] at g1; exact Option.some.inj (g1.symm.trans k1)
        subst this
        exact fin b y0 hl g3 hR
      · split at hh
        · rename_i i hi
          cases hh
          obtain ⟨_, hi2⟩ := idx_some hi
          have hi2' : ks[i]? = some b := by simpa using hi2
          obtain ⟨x0, y0, g1, g2, g3⟩ := hN i b hi2'
          have : x0 = x := by rw [h.S] at g1; exact Option.some.inj (g1.symm.trans k1)
          subst this
          exact fin _ y0 (hlN _ _ g3) g2 (hRN _ _ hi2')
        · cases hh
    · cases hh
  refine ⟨rfl, c', rfl, rfl, ?_, ?_, renT_ok hren hv hres⟩
  · refine ⟨h.wr.size, h.wr.kept, h.wr.os, h.wr.out, h.wr.xs, ?_, ?_, ?_, ?_, fun _ => Iff.rfl⟩
    · intro e y g1 g2
      obtain ⟨k, x, k1, k2, k3, _⟩ := hcl e y g1
      obtain ⟨_, q2, q3, _⟩ := renBlk_some k2
      obtain ⟨j1, j2⟩ := h.wr.own k x k1 (by rw [← q2]; exact g2)
      show (_ → _ ≤ R' e ∨ G (R' e)) ∧ ¬ X (R' e)
      rw [k3]
      exact ⟨fun hf => j1 (by rw [← q3]; exact hf), j2⟩
    · intro e y g1 g2
      obtain ⟨k, x, k1, k2, k3, _⟩ := hcl e y g1
      obtain ⟨_, q2, q3, _⟩ := renBlk_some k2
      show _ ≤ R' e ∨ Lo (R' e)
      rw [k3]
      exact h.wr.low k x k1 (by rw [← q2]; exact g2)
    · intro e e' y y' g1 g2 g1' g2' ee
      obtain ⟨k, x, k1, k2, k3, k4⟩ := hcl e y g1
      obtain ⟨k', x', k1', k2', k3', k4'⟩ := hcl e' y' g1'
      have ee' : R' e = R' e' := ee
      have hk : k = k' := h.wr.inj k k' x x' k1 (by rw [← (renBlk_some k2).2.1]; exact g2) k1' (by rw [← (renBlk_some k2').2.1]; exact g2') (by rw [← k3, ← k3', ee'])
      subst hk
      rcases k4 with ⟨m1, m2, m3⟩ | ⟨m1, m2, m3⟩
      · rcases k4' with ⟨m1', m2', m3'⟩ | ⟨m1', m2', m3'⟩
        · omega
        · omega
      · rcases k4' with ⟨m1', m2', m3'⟩ | ⟨m1', m2', m3'⟩
        · omega
        · have := nodup_get hnd m2 m2'
          omega
    · intro e y g1 g2
      obtain ⟨k, x, k1, k2, k3, _⟩ := hcl e y g1
      obtain ⟨q1, q2, q3, q4, q5, q6⟩ := renBlk_some k2
      obtain ⟨cells, t, lo, hi, j1, j2, j3, j4⟩ := (h.wr.blk k x k1 (by rw [← q2]; exact g2)).here
      refine ⟨cells, t, lo, hi, by show c.w.heap[R' e]? = _; rw [k3]; exact j1, by rw [q4]; exact j2, fun hk => ?_, fun hk => ?_⟩
      · exact mapO_renD_content (fun a a' v _ _ hv hr => renD_ok hren hv hr) (q6 (q2 ▸ hk)) (j3 (q2 ▸ hk))
      · obtain ⟨j5, j6⟩ := j4 (q2 ▸ hk)
        rw [q4, q5 (q2 ▸ hk)]
        exact ⟨j5, fun k a hk => let ⟨v, v1, v2⟩ := j6 k a hk; ⟨v, v1, hren.pv v2⟩⟩
  · refine ⟨h.le.size, fun b hb hf hf' => h.le.hF b hb hf (hFsub b hf'), h.le.hw, fun b x0 hx0 => ?_⟩
    have hb : b = outBase + (b - outBase) ∧ b - outBase < out.length ∧ x0.v = 0 := by
      rw [hc0] at hx0
      have hx : look (withKeys outBase 0 out) b = some x0 := hx0
      rw [look_withKeys] at hx
      split at hx
      · have hlt := (List.getElem?_eq_some_iff.1 hx).1
        exact ⟨by omega, by omega, hout x0 (List.mem_of_getElem? hx)⟩
      · cases hx
    obtain ⟨eb, hlt, hxv⟩ := hb
    obtain ⟨x, y, g1, g2, g3, g4⟩ := hO _ hlt
    have hl := hlO _ _ g4
    have hR := hRO _ hlt
    rw [← eb] at g1 hl hR
    obtain ⟨x', f1, f2, f3⟩ := h.le.hS b x0 hx0
    have : x' = x := Option.some.inj (f1.symm.trans g1)
    subst this
    obtain ⟨q1, q2, q3, q4, q5, q6⟩ := renBlk_some g3
    refine ⟨y, hl, by omega, fun _ hd => ?_⟩
    obtain ⟨k1, k2, k3, k4, k5, k6⟩ := f3 (by omega) (by rw [← q2]; exact hd)
    refine ⟨k1.trans q2.symm, hR.trans k2, q4.trans k3, fun hrow => ?_, fun hf => by rw [q3]; exact k5 hf, fun cells t fr hc => ?_⟩
    · rw [q5 (by rw [← k1]; exact hrow)]; exact k4 hrow
    · show ∃ cells' t' fr', c.w.heap[R' b]? = _ ∧ _
      rw [hR]; exact k6 cells t fr hc

end
end Go.Ab
/- Calls that were put off. -/
namespace Go.Ab
open Go

section
variable {P : Program} {w0 : World} {G X Lo : Nat → Prop}

def thrown (u : Value) : FrameMode := .panicking [{ v := u, recovered := false }]
def caught (u : Value) : FrameMode := .panicking [{ v := u, recovered := true }]

/-- What was thrown, and was it caught? -/
def MR (md0 : FrameMode) (r : Option AV) (b : Bool) (md : FrameMode) : Prop :=
  (b = false ∧ md = md0 ∧ ((r = none ∧ md0 = .returning) ∨ ∃ v u, r = some v ∧ md0 = thrown u ∧ (v.noSlcC = true → ∀ c, V c v u))) ∨
  (b = true ∧ r = none ∧ ∃ u, md0 = thrown u ∧ md = caught u)

def PostD (w0 : World) (G X Lo : Nat → Prop) (n : Nat) (c0 : Cx) (md0 : FrameMode) (f0 : Frame) (tl : List Frame) (ret : Bool) (st : St) (r : Option AV) (b : Bool) (ex : Exit) (a : Act) (cs : List Frame) (w : World) : Prop :=
  ∃ c md, c.w = w ∧ Sim w0 G X Lo n c0 c st a ∧ MR md0 r b md ∧ cs = { f0 with mode := md } :: tl ∧ ex = if ret = true then .ret else .normal

theorem opsD_ok {callF : CallF} (hF : FnOk P callF) {cfg : Cfg} {n : Nat} {ops : Array Oper} {c0 : Cx} {md0 : FrameMode} {f0 : Frame} {tl : List Frame} {st' : St} {r' : Option AV} {b' : Bool} :
    ∀ (rest : List Oper) (i : Nat) (st : St) (r : Option AV) (b : Bool) (c : Cx) (a : Act) (md : FrameMode), aOpsD P cfg callF n ops rest st r b = some (st', r', b') → (∀ j, rest[j]? = ops[i + j]?) →
      Sim w0 G X Lo n c0 c st a → MR md0 r b md → wpOpsS P ops (PostD w0 G X Lo n c0 md0 f0 tl false st' r' b') (List.range' i rest.length) a ({ f0 with mode := md } :: tl) c.w
  | [], i, st, r, b, c, a, md, h, _, hs, hm => by
    simp only [aOpsD, Option.some.injEq, Prod.mk.injEq] at h
    obtain ⟨rfl, rfl, rfl⟩ := h
    exact ⟨c, md, rfl, hs, hm, rfl, rfl⟩
  | o :: rest, i, st, r, b, c, a, md, h, hl, hs, hm => by
    have h0 : ops[i]? = some o := by simpa using (hl 0).symm
    have hl' : ∀ j, rest[j]? = ops[i + 1 + j]? := fun j => by have := hl (j + 1); simpa [Nat.add_assoc, Nat.add_comm 1 j] using this
    rw [List.length_cons, List.range'_succ]
    simp only [wpOpsS, h0]
    simp only [aOpsD] at h
    split at h
    · cases h
    · rename_i hw
      rw [if_neg (by rw [wanted_ok hs.fr hw]; decide)]
      split at h
      · rename_i st1 hp
        exact opsD_ok hF rest (i + 1) st1 r b c _ md h hl' (hs.skip hp) hm
      · cases h
    · rename_i hw
      rw [if_pos (wanted_ok hs.fr hw)]
      split at h
      · rename_i args ats ho
        have hrun : (execOp a.eval o).run P c.w = .ok .recover c.w := by
          simp [execOp, ho, resolve, invoke, builtin]
        rw [hrun]
        simp only
        split at h
        · rename_i v
          split at h
          · rename_i hns
            split at h
            · rename_i st1 hp
              rcases hm with ⟨rfl, rfl, ⟨h1, _⟩ | ⟨v', u, h1, h2, h3⟩⟩ | ⟨_, h1, _⟩
              · cases h1
              · cases h1
                have hrec : recoverD ({ f0 with mode := md } :: tl) = some (u, { f0 with mode := caught u } :: tl) := by
                  rw [h2]; rfl
                rw [hrec]
                simp only
                exact opsD_ok hF rest (i + 1) st1 none true c _ (caught u) h hl' (hs.put hp rfl hs.wr (Le.refl c) (h3 hns c)) (.inr ⟨rfl, rfl, u, h2, rfl⟩)
              · cases h1
            · cases h
          · cases h
        · split at h
          · rename_i st1 hp
            have hrec : recoverD ({ f0 with mode := md } :: tl) = none := by
              rcases hm with ⟨_, rfl, ⟨_, h1⟩ | ⟨v', u, h1, _⟩⟩ | ⟨_, _, u, _, h1⟩
              · rw [h1]; rfl
              · cases h1
              · rw [h1]; rfl
            rw [hrec]
            simp only
            exact opsD_ok hF rest (i + 1) st1 none b c _ md h hl' (hs.put hp rfl hs.wr (Le.refl c) (.pure .inil)) hm
          · cases h
      · split at h
        · rename_i v ds hop
          split at h
          · rename_i st1 hp
            have := op_ok hF hs.wr hs.S hs.fr hop (fun a' w' => wpOpsS P ops (PostD w0 G X Lo n c0 md0 f0 tl false st' r' b') (List.range' (i + 1) rest.length) a' ({ f0 with mode := md } :: tl) w')
              (fun e a' w' => PostD w0 G X Lo n c0 md0 f0 tl false st' r' b' e a' ({ f0 with mode := md } :: tl) w')
              (fun u c1 g1 g2 g3 g4 => opsD_ok hF rest (i + 1) st1 r b c1 _ md h hl' (hs.put hp g1 g2 g3 g4) hm)
            unfold Oper.wp at this
            generalize (execOp a.eval o).run P c.w = rr at this
            split
            · exact this.elim
            · exact this
          · cases h
        · cases h

theorem codeD_ok {callF : CallF} (hF : FnOk P callF) {cfg : Cfg} {reg : FuncId → Nat → Array Oper → Bool} (hD : DrawOk P cfg callF reg) {f : FuncId} {n : Nat} {c0 : Cx} {md0 : FrameMode} {f0 : Frame} {tl : List Frame} :
    ∀ (code : Code) (_ : codeOk (reg f) code = true) (st : St) (r : Option AV) (b ret : Bool) (st' : St) (r' : Option AV) (b' : Bool) (c : Cx) (a : Act) (md : FrameMode), aCodeD P cfg callF f n code st r b = some (ret, st', r', b') →
      Sim w0 G X Lo n c0 c st a → MR md0 r b md → code.wpS P (PostD w0 G X Lo n c0 md0 f0 tl ret st' r' b') a ({ f0 with mode := md } :: tl) c.w := by
  intro code
  induction code with
  | skip =>
    intro hcode st r b ret st' r' b' c a md h hs hm
    simp only [aCodeD, Option.some.injEq, Prod.mk.injEq] at h
    obtain ⟨rfl, rfl, rfl, rfl⟩ := h
    exact wpS_of_wp (wp_skip ⟨c, md, rfl, hs, hm, rfl, rfl⟩)
  | ret =>
    intro hcode st r b ret st' r' b' c a md h hs hm
    simp only [aCodeD, Option.some.injEq, Prod.mk.injEq] at h
    obtain ⟨rfl, rfl, rfl, rfl⟩ := h
    exact wpS_of_wp (wp_ret ⟨c, md, rfl, hs, hm, rfl, rfl⟩)
  | region id ops draw =>
    intro hcode st r b ret st' r' b' c a md h hs hm
    cases draw with
    | true =>
      simp only [aCodeD] at h
      split at h
      · rename_i st1 h1
        cases h
        refine wpS_of_wp (wp_mono (hD f n id ops hcode w0 G X Lo c0 c st _ a .norm h1 hs) ?_)
        rintro ex a' w' ⟨c', hw, hs', hex⟩
        exact ⟨c', md, hw, hs', hm, rfl, hex⟩
      · cases h
    | false =>
      simp only [aCodeD] at h
      split at h
      · rename_i x hx
        obtain ⟨st1, r1, b1⟩ := x
        cases h
        refine wpS_region ?_
        rw [List.range_eq_range']
        have := opsD_ok hF (md0 := md0) (f0 := f0) (tl := tl) ops.toList 0 st r b c a md hx (fun j => by simp) hs hm
        simpa using this
      · cases h
  | seq x y ihx ihy =>
    intro hcode st r b ret st' r' b' c a md h hs hm
    simp only [codeOk, Bool.and_eq_true] at hcode
    simp only [aCodeD] at h
    split at h
    · rename_i st1 r1 b1 h1
      refine wpS_seq ?_
      have := ihx hcode.1 st r b false st1 r1 b1 c a md h1 hs hm
      intro bf k hb hro
      obtain ⟨e, a', cs', w', ⟨c1, md1, hw, hs1, hm1, hcs, hex⟩, harr⟩ := this bf k hb hro
      refine ⟨e, a', cs', w', ?_, harr⟩
      have hex : e = .normal := hex
      subst hex
      subst hcs
      show y.wpS P _ a' _ w'
      rw [← hw]
      exact ihy hcode.2 st1 r1 b1 ret st' r' b' c1 a' md1 h hs1 hm1
    · rename_i hnn
      refine wpS_seq ?_
      have := ihx hcode.1 st r b ret st' r' b' c a md h hs hm
      intro bf k hb hro
      obtain ⟨e, a', cs', w', ⟨c1, md1, hw, hs1, hm1, hcs, hex⟩, harr⟩ := this bf k hb hro
      refine ⟨e, a', cs', w', ?_, harr⟩
      cases ret with
      | false => exact absurd h (hnn _ _ _)
      | true =>
        have hex : e = .ret := hex
        subst hex
        exact ⟨c1, md1, hw, hs1, hm1, hcs, rfl⟩
  | cond q x y ihx ihy =>
    intro hcode st r b ret st' r' b' c a md h hs hm
    simp only [codeOk, Bool.and_eq_true] at hcode
    simp only [aCodeD] at h
    split at h
    · rename_i t ht
      have hq := ht ▸ ev_ok hs.fr q
      refine wpS_cond hq.bool_inv ?_
      cases t with
      | true => exact ihx hcode.1 st r b ret st' r' b' c a md h hs hm
      | false => exact ihy hcode.2 st r b ret st' r' b' c a md h hs hm
    · cases h
  | _ => intro _ st r b ret st' r' b' c a md h; simp [aCodeD] at h

/-- The parameters. -/
theorem params_look : ∀ (args : List AV) (i t : Nat), look (paramsFr i args) t = if i ≤ t then args[t - i]? else none
  | [], i, t => by simp [paramsFr, look]
  | x :: r, i, t => by
    simp only [paramsFr, look_cons]
    rw [params_look r (i + 1) t]
    by_cases e : i = t
    · subst e; simp
    · rw [if_neg e]
      by_cases hle : i ≤ t
      · have h2 : t - i = (t - (i + 1)) + 1 := by omega
        rw [if_pos (by omega), if_pos hle, h2, List.getElem?_cons_succ]
      · rw [if_neg hle, if_neg (by omega)]

theorem start_ok {c : Cx} {n : Nat} {out : List Blk} {args : List AV} {vs : List Value} (hS : c.S = outerSt out) (hW : WR w0 G X Lo c) (hv : VL c args vs) (hn : args.length ≤ n) :
    Sim w0 G X Lo n c c { fr := paramsFr 0 args, bs := outerSt out, df := [] } { tmps := vs.toArray ++ Array.replicate (n - vs.toArray.size) Go.undef, defers := [] } := by
  refine ⟨hS, hW, Le.refl c, ⟨?_, ?_, ?_⟩, trivial⟩
  · have := hv.1
    simp
    omega
  · intro t v ht
    rw [params_look] at ht
    simp only [Nat.zero_le, if_true, Nat.sub_zero] at ht
    have := (List.getElem?_eq_some_iff.1 ht).1
    omega
  · intro t v ht
    rw [params_look] at ht
    simp only [Nat.zero_le, if_true, Nat.sub_zero] at ht
    have hlt := (List.getElem?_eq_some_iff.1 ht).1
    have hlv : t < vs.length := by have := hv.1; omega
    have hu : vs[t]? = some vs[t] := List.getElem?_eq_getElem hlv
    have : (vs.toArray ++ Array.replicate (n - vs.toArray.size) Go.undef).getD t Go.undef = vs[t] := by
      simp [Array.getD, Array.getElem_append, hlv]
      omega
    rw [this]
    exact hv.2 t v _ ht hu

def PostDC (w0 : World) (G X Lo : Nat → Prop) (c : Cx) (md0 : FrameMode) (ret : Ret) (e : Ending) (u' : FrameMode) (w' : World) : Prop :=
  ∃ c' b v r, c'.w = w' ∧ c'.S = outerSt ret.out ++ withKeys newBase 0 ret.new ∧ WR w0 G X Lo c' ∧ Le c c' ∧ V c' ret.res (.bool b) ∧ ret.pan = false ∧ e = .returned v ∧ MR md0 r b u'

theorem funcD_ok {callF : CallF} (hF : FnOk P callF) {cfg : Cfg} {reg : FuncId → Nat → Array Oper → Bool} (hD : DrawOk P cfg callF reg) (hC : ∀ f, cfg.isF f = true → ∃ fn b, P.funcs[f]? = some fn ∧ fn.body = some b ∧ (fn.name == "runtime.NumGoroutine") = false ∧ codeOk (reg f) b = true) {r : Option AV} {f : FuncId} {args : List AV} {out : List Blk} {ret : Ret} (hr : aFuncD P cfg callF r f args out = some ret)
    {c : Cx} {vs : List Value} {md0 : FrameMode} (hS : c.S = outerSt out) (hout : ∀ x ∈ out, x.v = 0) (hW : WR w0 G X Lo c) (hv : VL c args vs) (hm : MR md0 r false md0) :
    CallsD P f vs.toArray md0 c.w (PostDC w0 G X Lo c md0 ret) := by
  unfold aFuncD at hr
  split at hr
  case isFalse => cases hr
  rename_i hisF
  split at hr
  case h_2 => cases hr
  rename_i fn hfn
  split at hr
  case h_2 => cases hr
  rename_i code hbody
  have hok : codeOk (reg f) code = true := by
    obtain ⟨fn2, b2, q1, q2, _, q4⟩ := hC f hisF
    have e1 : fn2 = fn := Option.some.inj (q1.symm.trans hfn)
    subst e1
    have e2 : b2 = code := Option.some.inj (q2.symm.trans hbody)
    subst e2
    exact q4
  split at hr
  case isFalse => cases hr
  rename_i hn
  split at hr
  case h_2 => cases hr
  rename_i rt st r' b hcode
  split at hr
  case isFalse => cases hr
  rename_i hdf
  refine callsD_of_wpS hfn hbody ?_
  intro f0 tl hmode
  have hf0 : f0 = { f0 with mode := md0 } := by rw [← hmode]
  have := codeD_ok hF hD (f0 := f0) (tl := tl) code hok _ r false rt st r' b c _ md0 hcode (start_ok hS hW hv hn.1) hm
  rw [← hf0] at this
  intro bf k hb hro
  obtain ⟨e, a', cs', w', ⟨c1, md1, hw, hs1, hm1, hcs, hex⟩, harr⟩ := this bf k hb hro
  refine ⟨e, a', cs', w', ?_, harr⟩
  have hd : a'.defers = [] := by
    have h1 := hs1.df
    have h2 : st.df = [] := by simpa using hdf
    rw [h2] at h1
    cases hh : a'.defers with
    | nil => rfl
    | cons d ds => rw [hh] at h1; exact h1.elim
  have hres : (results fn a'.tmps).run P w' = .ok (.tuple #[]) w' := results_none (by simpa using hn.2) _ _ _
  obtain ⟨hp, c2, g1, g2, g3, g4, g5⟩ := leave_ok hS hout hs1 (.pure (.bool b)) hr
  have hfin : PostDC w0 G X Lo c md0 ret (.returned (.tuple #[])) md1 w' := ⟨c2, b, _, r', by rw [g1, hw], g2, g3, g4, g5, hp, rfl, hm1⟩
  cases rt with
  | false =>
    have hex : e = .normal := hex
    subst hex
    exact ⟨hd, md1, hcs, _, hres, hfin⟩
  | true =>
    have hex : e = .ret := hex
    subst hex
    exact ⟨hd, md1, hcs, _, hres, hfin⟩

/-- What is thrown still. -/
def UM (c : Cx) (r : Option AV) (u : FrameMode) : Prop := (r = none ∧ u = .returning) ∨ ∃ v x, r = some v ∧ u = thrown x ∧ V c v x

theorem unwind_ok {callF : CallF} (hF : FnOk P callF) {cfg : Cfg} {reg : FuncId → Nat → Array Oper → Bool} (hD : DrawOk P cfg callF reg) (hC : ∀ f, cfg.isF f = true → ∃ fn b, P.funcs[f]? = some fn ∧ fn.body = some b ∧ (fn.name == "runtime.NumGoroutine") = false ∧ codeOk (reg f) b = true) {n : Nat} {fn : Func} {R : Ending → World → Prop} {r' : Option AV} {st' : St} {tmps : Array Value} :
    ∀ (df : List (AV × List AV)) (ds : List Deferred) (r : Option AV) (st : St) (c : Cx) (u : FrameMode), unwindA P cfg callF df r st = some (r', st') → c.S = st.bs → WR w0 G X Lo c → Fr c n st.fr tmps → DfR c df ds → UM c r u →
      (∀ c1 u1, c1.S = st'.bs → WR w0 G X Lo c1 → Le c c1 → Fr c1 n st'.fr tmps → UM c1 r' u1 → Leaves P fn tmps R [] u1 c1.w) → Leaves P fn tmps R ds u c.w
  | [], ds, r, st, c, u, h, hS, hW, hfr, hd, hu, K => by
    simp only [unwindA, Option.some.injEq, Prod.mk.injEq] at h
    obtain ⟨rfl, rfl⟩ := h
    cases ds with
    | nil => exact K c u hS hW (Le.refl c) hfr hu
    | cons => exact hd.elim
  | (f, args) :: df, ds, r, st, c, u, h, hS, hW, hfr, hd, hu, K => by
    cases ds with
    | nil => exact hd.elim
    | cons d ds =>
      obtain ⟨⟨fn', first, cap, vs, h1, h2, rfl⟩, h3⟩ := hd
      cases f <;> simp only [unwindA] at h <;> try (cases h; done)
      rename_i g fs cs
      obtain ⟨vfs, vcs, e1, l1, l2, p1, p2⟩ := h1.fn_inv
      injection e1 with e1 e2 e3
      subst e1; subst e2; subst e3
      have hargs := VL.append (VL.append (c := c) ⟨l1, p1⟩ h2) (⟨l2, p2⟩ : VL c cs vcs)
      have hrun : u ≠ .run := by
        rcases hu with ⟨_, e⟩ | ⟨_, _, _, e, _⟩ <;> rw [e] <;> simp [thrown]
      have key : ∀ (bb : Bool) (d : List (Nat × Blk)), aCall cfg (aFuncD P cfg callF r) st.bs none g (fs ++ args ++ cs) = some (.val (.bool bb) d) →
          (∀ c1 u1, c1.S = d ++ c.S → WR w0 G X Lo c1 → Le c c1 → UM c1 (if bb = true then none else r) u1 → Leaves P fn tmps R ds u1 c1.w) →
          Leaves P fn tmps R ({ target := .fn (.func g) vcs.toArray, args := vfs.toArray ++ vs.toArray } :: ds) u c.w := by
        intro bb d hcl K1
        rw [← hS] at hcl
        obtain ⟨args2, out, ret, cc, w0', G', X', Lo', hret, k1, k2, k3, k4, k5, k6⟩ := call_split hW hargs hcl
        have hisF : cfg.isF g = true := by
          unfold aFuncD at hret
          split at hret
          · assumption
          · cases hret
        obtain ⟨fn2, b2, q1, q2, q3, _⟩ := hC g hisF
        have q3' : ¬ fn2.name = "runtime.NumGoroutine" := by simpa using q3
        refine leaves_cons (f := g) (args := (vfs ++ vs ++ vcs).toArray) hrun (by simp [invoke, callFunc, q1, q2, q3']) ?_
        have hm : MR u r false u := by
          rcases hu with ⟨e1, e2⟩ | ⟨v, x, e1, e2, e3⟩
          · exact .inl ⟨rfl, rfl, .inl ⟨e1, e2⟩⟩
          · exact .inl ⟨rfl, rfl, .inr ⟨v, x, e1, e2, fun hns c' => noSlcC_V hns e3⟩⟩
        have := funcD_ok hF hD hC hret k2 k3 k4 k5 hm
        rw [k1] at this
        refine this.mono ?_
        rintro e u' w' ⟨c', b, v, r1, j1, j2, j3, j4, j5, j6, rfl, j7⟩
        simp only
        obtain ⟨c1, a1, ds1, i1, i2, i3, i4, i5, i6⟩ := k6 c' _ j2 j3 j4 j5
        rw [j6] at i1
        cases i1
        have hbb : bb = b := by have := i6.bool_inv; cases this; rfl
        subst hbb
        rw [← j1, ← i2]
        refine K1 c1 (settle u') i3 i4 i5 ?_
        rcases j7 with ⟨rfl, rfl, j8⟩ | ⟨rfl, _, x, j8, rfl⟩
        · simp only [Bool.false_eq_true, if_false]
          rcases hu with ⟨e1, e2⟩ | ⟨v, x, e1, e2, e3⟩
          · exact .inl ⟨e1, by rw [e2]; rfl⟩
          · exact .inr ⟨v, x, e1, by rw [e2]; rfl, e3.mono i5⟩
        · exact .inl ⟨rfl, rfl⟩
      split at h
      · rename_i d hcl
        refine key true d hcl (fun c1 u1 g1 g2 g3 g4 => ?_)
        exact unwind_ok hF hD hC df ds none _ c1 u1 h (by rw [g1, hS]) g2 (hfr.mono g3) (h3.mono g3) g4 (fun c2 u2 k1 k2 k3 k4 k5 => K c2 u2 k1 k2 (g3.trans k3) k4 k5)
      · rename_i d hcl
        refine key false d hcl (fun c1 u1 g1 g2 g3 g4 => ?_)
        exact unwind_ok hF hD hC df ds r _ c1 u1 h (by rw [g1, hS]) g2 (hfr.mono g3) (h3.mono g3) g4 (fun c2 u2 k1 k2 k3 k4 k5 => K c2 u2 k1 k2 (g3.trans k3) k4 k5)
      · cases h

end
end Go.Ab
/- What the evaluator says of a function is so. -/
namespace Go.Ab
open Go

/-- A function that is taken as known is so. -/
def PrimOk (P : Program) (f : FuncId) (g : List AV → List Blk → Option Ret) : Prop :=
  ∀ {args : List AV} {out : List Blk} {r : Ret}, g args out = some r → Callable P f ∧
    ∀ {c : Cx} {w0 : World} {G X Lo : Nat → Prop} {vs : List Value}, c.S = outerSt out → (∀ x ∈ out, x.v = 0) → WR w0 G X Lo c → VL c args vs → Calls P f vs.toArray c.w (CallPost w0 G X Lo c r)

structure CfgOk (P : Program) (cfg : Cfg) (reg : FuncId → Nat → Array Oper → Bool) : Prop where
  isF : ∀ f, cfg.isF f = true → ∃ fn b, P.funcs[f]? = some fn ∧ fn.body = some b ∧ (fn.name == "runtime.NumGoroutine") = false ∧ codeOk (reg f) b = true
  draw : ∀ callF, FnOk P callF → DrawOk P cfg callF reg
  prim : ∀ f g, cfg.prim f = some g → PrimOk P f g

section
variable {P : Program} {w0 : World} {G X Lo : Nat → Prop}

theorem Sim.nodf {n : Nat} {c0 c : Cx} {st : St} {tmps : Array Value} (hS : c.S = st.bs) (hW : WR w0 G X Lo c) (hL : Le c0 c) (hfr : Fr c n st.fr tmps) : Sim w0 G X Lo n c0 c { st with df := [] } { tmps := tmps, defers := [] } :=
  ⟨hS, hW, hL, hfr, trivial⟩

theorem resultsOf_nodf (st : St) (rs : List ResultVar) : resultsOf P { st with df := [] } rs = resultsOf P st rs := by
  unfold resultsOf
  have : resultOf P { st with df := [] } = resultOf P st := by funext x; cases x <;> rfl
  rw [this]

theorem leave_nodf (st : St) (m : Nat) (p : Bool) (v : AV) : leave { st with df := [] } m p v = leave st m p v := by
  unfold leave
  rfl

theorem finish_ok {callF : CallF} (hF : FnOk P callF) {cfg : Cfg} {reg : FuncId → Nat → Array Oper → Bool} (hC : CfgOk P cfg reg) {n : Nat} {fn : Func} {out : List Blk} {c0 c : Cx} (hc0 : c0.S = outerSt out) (hout : ∀ x ∈ out, x.v = 0)
    {st : St} {a : Act} (hs : Sim w0 G X Lo n c0 c st a) {r : Option AV} {u : FrameMode} (hu : UM c r u) {ret : Ret} (h : finish P cfg callF fn out.length st.df r st = some ret) :
    Leaves P fn a.tmps (CallPost w0 G X Lo c0 ret) a.defers u c.w := by
  unfold finish at h
  split at h
  · rename_i st' hun
    refine unwind_ok hF (hC.draw _ hF) hC.isF _ _ _ _ _ _ hun hs.S hs.wr hs.fr hs.df hu ?_
    intro c1 u1 g1 g2 g3 g4 g5
    have hsim := Sim.nodf (c0 := c0) g1 g2 (hs.le.trans g3) g4
    split at h
    · rename_i v hv
      obtain ⟨x, k1, k2⟩ := resultsOf_ok hsim (v := v) (by rw [resultsOf_nodf]; exact hv)
      obtain ⟨hp, c2, j1, j2, j3, j4, j5⟩ := leave_ok hc0 hout hsim k2 ((leave_nodf st' _ _ _).trans h)
      rcases g5 with ⟨_, rfl⟩ | ⟨_, _, e, _⟩
      · simp only [Leaves]
        exact ⟨x, k1, c2, x, j1, j2, j3, j4, j5, by rw [hp, if_neg (by decide)]⟩
      · cases e
    · cases h
  · rename_i v st' hun
    refine unwind_ok hF (hC.draw _ hF) hC.isF _ _ _ _ _ _ hun hs.S hs.wr hs.fr hs.df hu ?_
    intro c1 u1 g1 g2 g3 g4 g5
    have hsim := Sim.nodf (c0 := c0) g1 g2 (hs.le.trans g3) g4
    rcases g5 with ⟨e, _⟩ | ⟨v', x, e, rfl, hx⟩
    · cases e
    · cases e
      obtain ⟨hp, c2, j1, j2, j3, j4, j5⟩ := leave_ok hc0 hout hsim hx ((leave_nodf st' _ _ _).trans h)
      simp only [thrown, Leaves]
      exact ⟨c2, x, j1, j2, j3, j4, j5, by rw [hp, if_pos rfl]⟩
  · cases h

theorem func_ok {callF : CallF} (hF : FnOk P callF) {cfg : Cfg} {reg : FuncId → Nat → Array Oper → Bool} (hC : CfgOk P cfg reg) {f : FuncId} {args : List AV} {out : List Blk} {ret : Ret} (hr : aFunc P cfg callF f args out = some ret) :
    Callable P f ∧ ∀ {c : Cx} {w0 : World} {G X Lo : Nat → Prop} {vs : List Value}, c.S = outerSt out → (∀ x ∈ out, x.v = 0) → WR w0 G X Lo c → VL c args vs → Calls P f vs.toArray c.w (CallPost w0 G X Lo c ret) := by
  have hcall : ∀ f, cfg.isF f = true → Callable P f := fun f hf => let ⟨fn, b, h1, h2, h3, _⟩ := hC.isF f hf; ⟨fn, b, h1, h2, h3⟩
  unfold aFunc at hr
  split at hr
  case isFalse => cases hr
  rename_i hisF
  refine ⟨hcall f hisF, ?_⟩
  intro c w0 G X Lo vs hS hout hW hv
  obtain ⟨fn', b', e1, e2, e3, e4⟩ := hC.isF f hisF
  split at hr
  case h_2 => cases hr
  rename_i fn hfn
  have : fn' = fn := Option.some.inj (e1.symm.trans hfn)
  subst this
  split at hr
  case h_2 => cases hr
  rename_i code hbody
  have : b' = code := Option.some.inj (e2.symm.trans hbody)
  subst this
  split at hr
  case isFalse => cases hr
  rename_i hn
  have h0 : ∀ b x, look c.S b = some x → outBase ≤ b := by
    intro b x hb
    rw [hS] at hb
    have hb' : look (withKeys outBase 0 out) b = some x := hb
    rw [look_withKeys] at hb'
    split at hb'
    · omega
    · cases hb'
  refine calls_of_wp_defers hfn hbody ?_
  have hst := start_ok hS hW hv hn
  have main : ∀ e st, aCode P cfg callF f fn'.ntmps 0 b' { fr := paramsFr 0 args, bs := outerSt out, df := [] } = some (e, st) →
      b'.wp P (Post w0 G X Lo fn'.ntmps c e st) { tmps := vs.toArray ++ Array.replicate (fn'.ntmps - vs.toArray.size) Go.undef, defers := [] } c.w :=
    fun e st h => code_ok hF (hC.draw callF hF) h0 b' 0 _ e st c _ e4 h hst
  split at hr
  · rename_i v st hcode
    refine wp_mono (main _ _ hcode) ?_
    rintro ex a w ⟨c1, rfl, hs, u, hu, rfl⟩
    exact finish_ok hF hC hS hout hs (.inr ⟨v, u, rfl, rfl, hu⟩) hr
  · cases hr
  · rename_i e st hne hnp hcode
    refine wp_mono (main _ _ hcode) ?_
    rintro ex a w ⟨c1, rfl, hs, hex⟩
    cases e with
    | norm => cases hex; exact finish_ok hF hC hS hout hs (.inl ⟨rfl, rfl⟩) hr
    | ret => cases hex; exact finish_ok hF hC hS hout hs (.inl ⟨rfl, rfl⟩) hr
    | exit id => exact (hnp _ rfl).elim
    | pan v => exact (hne _ rfl).elim
  · cases hr

theorem ev_sound {cfg : Cfg} {reg : FuncId → Nat → Array Oper → Bool} (hC : CfgOk P cfg reg) : ∀ k, FnOk P (evF P cfg k)
  | 0 => ⟨fun h => by simp [evF] at h, fun h => by simp [evF] at h⟩
  | k + 1 => by
    have ih := ev_sound hC k
    have key : ∀ {f args out r}, evF P cfg (k + 1) f args out = some r → Callable P f ∧ ∀ {c : Cx} {w0 : World} {G X Lo : Nat → Prop} {vs : List Value}, c.S = outerSt out → (∀ x ∈ out, x.v = 0) → WR w0 G X Lo c → VL c args vs → Calls P f vs.toArray c.w (CallPost w0 G X Lo c r) := by
      intro f args out r h
      simp only [evF] at h
      split at h
      · rename_i g hg
        exact hC.prim f g hg h
      · exact func_ok ih hC h
    exact ⟨fun h => (key h).1, fun h => (key h).2⟩

end
end Go.Ab
/- An operation knows of the store only what it reads. -/
namespace Go.Ab
open Go

section
variable {P : Program} {bs bs' : List (Nat × Blk)}

theorem ldBlk_congr {b : Nat} (h : look bs' b = look bs b) (v : Nat) : ldBlk bs' b v = ldBlk bs b v := by unfold ldBlk; rw [h]
theorem nextV_congr {b : Nat} (h : look bs' b = look bs b) : nextV bs' b = nextV bs b := by unfold nextV; rw [h]

theorem mapO_eq {α β : Type} {f g : α → Option β} : ∀ {l : List α}, (∀ a ∈ l, f a = g a) → mapO f l = mapO g l
  | [], _ => rfl
  | a :: l, h => by simp only [mapO]; rw [h a (by simp), mapO_eq (fun x hx => h x (by simp [hx]))]

theorem mapN_eq {α : Type} {f g : Nat → Option α} : ∀ {l : List Nat}, (∀ a ∈ l, f a = g a) → mapN f l = mapN g l
  | [], _ => rfl
  | a :: l, h => by simp only [mapN]; rw [h a (by simp), mapN_eq (fun x hx => h x (by simp [hx]))]

theorem freeze_congr : ∀ {l : List Nat}, (∀ b ∈ l, look bs' b = look bs b) → freeze bs' l = freeze bs l
  | [], _ => rfl
  | b :: r, h => by simp only [freeze]; rw [h b (by simp), freeze_congr (fun x hx => h x (by simp [hx]))]

theorem pureC_congr {a : AV} (h : ∀ b ∈ rowsC a, look bs' b = look bs b) : pureC bs' a = pureC bs a := by
  cases a <;> first | rfl | skip
  · rename_i b v off len
    have : pureM bs' b v = pureM bs b v := by unfold pureM; rw [ldBlk_congr (h b (by simp [rowsC]))]
    simp only [pureC, renC, this]
  · rename_i f fs cs
    cases fs <;> cases cs <;> rfl

theorem pureA_not {a : AV} (h : ∀ l, a ≠ .agg l) (bs : List (Nat × Blk)) : pureA bs a = pureC bs a := by
  unfold pureA
  split
  · exact absurd rfl (h _)
  · rfl
theorem rowsA_not {a : AV} (h : ∀ l, a ≠ .agg l) : rowsA a = rowsC a := by
  unfold rowsA
  split
  · exact absurd rfl (h _)
  · rfl

theorem pureA_congr {a : AV} (h : ∀ b ∈ rowsA a, look bs' b = look bs b) : pureA bs' a = pureA bs a := by
  cases a with
  | agg cs =>
    simp only [pureA]
    rw [mapO_eq (fun x hx => pureC_congr (fun b hb => h b (List.mem_flatMap.2 ⟨x, hx, hb⟩)))]
  | _ =>
    rw [pureA_not (by simp), pureA_not (by simp)]
    exact pureC_congr (fun b hb => h b (by rw [rowsA_not (by simp)]; exact hb))

theorem argOf_congr {byref : Bool} {a : AV} (h : ∀ b ∈ rowsA a, look bs' b = look bs b) : argOf bs' byref a = argOf bs byref a := by
  unfold argOf
  split
  · rfl
  · split
    · rfl
    · rfl
    · exact pureA_congr h

theorem addNew_sub : ∀ (l acc : List Nat), (∀ x ∈ acc, x ∈ addNew acc l)
  | [], acc => fun x h => h
  | y :: r, acc => fun x h => by
    simp only [addNew]
    split
    · exact addNew_sub r acc x h
    · exact addNew_sub r _ x (by simp [h])

theorem closeR_sub (bs : List (Nat × Blk)) : ∀ (n : Nat) (l : List Nat), ∀ x ∈ l, x ∈ closeR bs n l
  | 0, _ => fun x h => h
  | n + 1, l => fun x h => closeR_sub bs n _ x (addNew_sub _ l x h)

theorem blkRefs_congr {b : Nat} (h : look bs' b = look bs b) : blkRefs bs' b = blkRefs bs b := by unfold blkRefs; rw [h]

theorem flatMap_eq {α β : Type} {f g : α → List β} : ∀ {l : List α}, (∀ a ∈ l, f a = g a) → l.flatMap f = l.flatMap g
  | [], _ => rfl
  | a :: l, h => by rw [List.flatMap_cons, List.flatMap_cons, h a (by simp), flatMap_eq (fun x hx => h x (by simp [hx]))]

theorem closeR_congr : ∀ (n : Nat) (l : List Nat), (∀ b ∈ closeR bs n l, look bs' b = look bs b) → closeR bs' n l = closeR bs n l
  | 0, _, _ => rfl
  | n + 1, l, h => by
    simp only [closeR]
    rw [flatMap_eq (f := blkRefs bs') (g := blkRefs bs) (fun b hb => blkRefs_congr (h b (closeR_sub bs _ _ b hb)))]
    exact closeR_congr n _ h

theorem nameM_congr {ks : List Nat} (h : ∀ b ∈ ks, look bs' b = look bs b) (base : Nat) : nameM bs' ks base = nameM bs ks base := by
  funext b v
  unfold nameM
  by_cases hb : b ∈ ks
  · rw [ldBlk_congr (h b hb)]
  · have : idx? ks b 0 = none := by
      cases hi : idx? ks b 0 with
      | none => rfl
      | some i => exact absurd (List.mem_of_getElem? (idx_some hi).2) hb
    rw [this]
    cases ldBlk bs' b v <;> cases ldBlk bs b v <;> rfl

theorem callIn_congr {byref : Bool} {args : List AV} (h : ∀ b ∈ callReads bs byref args, look bs' b = look bs b) : callIn bs' byref args = callIn bs byref args := by
  have h1 : mapO (argOf bs' byref) args = mapO (argOf bs byref) args :=
    mapO_eq (fun a ha => argOf_congr (fun b hb => h b (List.mem_append.2 (.inl (List.mem_flatMap.2 ⟨a, ha, hb⟩)))))
  unfold callIn
  rw [h1]
  cases hm : mapO (argOf bs byref) args with
  | none => rfl
  | some args1 =>
    simp only
    have h2 : ∀ b ∈ closeR bs 3 (addNew [] (args1.flatMap refsA)), look bs' b = look bs b := fun b hb => h b (by
      unfold callReads
      rw [hm]
      exact List.mem_append.2 (.inr hb))
    rw [closeR_congr 3 _ h2, nameM_congr h2]
    have : mapN (renAt bs' (nameM bs (closeR bs 3 (addNew [] (args1.flatMap refsA))) outBase)) (closeR bs 3 (addNew [] (args1.flatMap refsA))) =
        mapN (renAt bs (nameM bs (closeR bs 3 (addNew [] (args1.flatMap refsA))) outBase)) (closeR bs 3 (addNew [] (args1.flatMap refsA))) :=
      mapN_eq (fun b hb => by unfold renAt; rw [h2 b hb])
    rw [this]

theorem callIn_ks {byref : Bool} {args args2 : List AV} {ks : List Nat} {out : List Blk} (h : callIn bs byref args = some (args2, ks, out)) : ∀ b ∈ ks, b ∈ callReads bs byref args := by
  unfold callIn at h
  unfold callReads
  split at h
  · cases h
  · rename_i args1 hm
    dsimp only at h
    rw [hm]
    (repeat' split at h) <;> first | cases h | skip
    exact fun b hb => List.mem_append.2 (.inr hb)

theorem backOut_congr {m : Nat → Nat → Option Nm} : ∀ {ks : List Nat} {xs : List Blk}, (∀ b ∈ ks, look bs' b = look bs b) → backOut bs' m ks xs = backOut bs m ks xs
  | [], [], _ => rfl
  | [], _ :: _, _ => rfl
  | _ :: _, [], _ => rfl
  | k :: ks, x :: xs, h => by simp only [backOut]; rw [h k (by simp), backOut_congr (fun b hb => h b (by simp [hb]))]

theorem backNew_congr {m : Nat → Nat → Option Nm} {d : Nat} : ∀ {j : Nat} {xs : List Blk}, (∀ i, j ≤ i → i < j + xs.length → look bs' (16 * d + i) = look bs (16 * d + i)) → backNew bs' m d j xs = backNew bs m d j xs
  | _, [], _ => rfl
  | j, x :: xs, h => by
    simp only [backNew]
    rw [nextV_congr (h j (Nat.le_refl _) (by simp)), backNew_congr (fun i h1 h2 => h i (by omega) (by simp; omega))]

theorem own_mem {t j : Nat} (h : j < 16) : 16 * t + j ∈ ownK (some t) := List.mem_map.2 ⟨j, List.mem_range.2 h, rfl⟩

theorem callOut_congr {thaw : Bool} {d : Option Tmp} {ks l : List Nat} {r : Ret} {res : Res} (hk : ∀ b ∈ ks, look bs' b = look bs b) (hl : ∀ b ∈ l, look bs' b = look bs b) (hd : ∀ b ∈ ownK d, look bs' b = look bs b)
    (h : callOut bs thaw d ks l r = some res) : callOut bs' thaw d ks l r = some res := by
  rw [← h]
  unfold callOut at h ⊢
  dsimp only at h ⊢
  generalize hfull : ((thaw || r.new.any fun x => decide (x.k = .box)) && d.isSome) = full at h ⊢
  split at h
  case isFalse => cases h
  rename_i hchk
  rw [if_pos hchk, if_pos hchk]
  by_cases hf : full = true
  · have hds : d.isSome = true := by
      rw [← hfull] at hf
      simp only [Bool.and_eq_true] at hf
      exact hf.2
    obtain ⟨t, rfl⟩ := Option.isSome_iff_exists.1 hds
    have hlen : r.new.length ≤ 16 := by
      rcases Nat.lt_or_ge 16 r.new.length with hgt | hle
      · exfalso
        simp only [if_pos hf, if_neg (show ¬ r.new.length ≤ 16 by omega)] at h
        split at h
        · cases h
        · split at h <;> cases h
      · exact hle
    have hnew : ∀ i, i < 16 → look bs' (16 * t + i) = look bs (16 * t + i) := fun i hi => hd _ (own_mem hi)
    have hm : backM bs' ks r full t = backM bs ks r full t := by
      funext b v
      unfold backM
      split
      · rfl
      split
      · rfl
      split
      · split
        · rename_i x k hx hk'
          rw [hk k (List.mem_of_getElem? hk')]
        · rfl
      · split
        · rename_i x hx
          have hlt := (List.getElem?_eq_some_iff.1 hx).1
          rw [nextV_congr (hnew (b - newBase) (by omega))]
        · rfl
    simp only [Option.getD_some]
    rw [hm, freeze_congr hl, backOut_congr hk, backNew_congr (fun i _ h2 => hnew i (by omega))]
  · have hm : backM bs' ks r full (d.getD 0) = backM bs ks r full (d.getD 0) := by
      funext b v
      unfold backM
      split
      · rfl
      split
      · rfl
      split
      · split
        · rename_i x k hx hk'
          rw [hk k (List.mem_of_getElem? hk')]
        · rfl
      · simp only [if_neg hf]
    rw [hm, freeze_congr hl, backOut_congr hk]
    simp only [if_neg hf]

theorem aCall_congr {cfg : Cfg} {callF : CallF} {d : Option Tmp} {f : FuncId} {args : List AV} {res : Res} (h1 : ∀ b ∈ callReads bs (cfg.byref f) args, look bs' b = look bs b) (h2 : ∀ b ∈ ownK d, look bs' b = look bs b)
    (h : aCall cfg callF bs d f args = some res) : aCall cfg callF bs' d f args = some res := by
  unfold aCall at h ⊢
  rw [callIn_congr h1]
  split at h
  · cases h
  rename_i args2 ks out hin
  split at h
  · cases h
  rename_i r hr
  refine callOut_congr (fun b hb => h1 b (callIn_ks hin b hb)) (fun b hb => h1 b ?_) h2 h
  unfold callReads
  refine List.mem_append.2 (.inl ?_)
  obtain ⟨a, ha, hb⟩ := List.mem_flatMap.1 hb
  refine List.mem_flatMap.2 ⟨a, ha, ?_⟩
  unfold argRows at hb
  split at hb
  · simp at hb
  · exact hb

theorem cellsAt_congr {p : AV} (h : ∀ b ∈ refsT p, look bs' b = look bs b) : cellsAt bs' p = cellsAt bs p := by
  cases p <;> first | rfl | skip
  rename_i b v i off
  simp only [cellsAt]
  rw [ldBlk_congr (h b (by simp [refsT, refsA, refsC]))]

theorem rowAt_congr {b v off len : Nat} (h : look bs' b = look bs b) : rowAt bs' b v off len = rowAt bs b v off len := by
  unfold rowAt
  rw [ldBlk_congr h]

theorem elemsOf_congr {x : AV} (h : ∀ b ∈ refsT x, look bs' b = look bs b) : elemsOf bs' x = elemsOf bs x := by
  cases x <;> first | rfl | skip
  rename_i b v off len
  exact rowAt_congr (h b (by simp [refsT, refsA, refsC]))

theorem appended_congr {e : TypeId} {x : AV} (h : ∀ b ∈ refsT x, look bs' b = look bs b) : appended P bs' e x = appended P bs e x := by
  cases x <;> first | rfl | simp only [appended, elemsOf_congr h]

theorem slc_refs {b v off len : Nat} : b ∈ refsT (.sref b v off len) := by simp [refsT, refsA, refsC]
theorem ptr_refs {b v off len : Nat} : b ∈ refsT (.ptr b v off len) := by simp [refsT, refsA, refsC]

theorem own0 {t : Nat} : 16 * t ∈ ownK (some t) := List.mem_map.2 ⟨0, by simp, by omega⟩

theorem newBox_congr {d : Option Tmp} {cs : List AV} (hd : ∀ b ∈ ownK d, look bs' b = look bs b) : newBox bs' d cs = newBox bs d cs := by
  unfold newBox
  cases d with
  | none => rfl
  | some t => simp only [keyOf, newBlk, nextV_congr (hd _ own0)]

theorem newRow_congr {d : Option Tmp} {sz : Nat} {es : List AV} {more : List (Nat × Blk)} (hd : ∀ b ∈ ownK d, look bs' b = look bs b) : newRow bs' d sz es more = newRow bs d sz es more := by
  unfold newRow
  cases d with
  | none => rfl
  | some t => simp only [keyOf, newBlk, nextV_congr (hd _ own0)]

theorem aIndexAddr_congr {t : TypeId} {x i : AV} (h : ∀ b ∈ refsT x, look bs' b = look bs b) : aIndexAddr P bs' t x i = aIndexAddr P bs t x i := by
  cases x <;> first | rfl | skip
  · rename_i b v off len
    simp only [aIndexAddr, ldBlk_congr (h b slc_refs)]
  · rename_i b v off len
    simp only [aIndexAddr, cellsAt_congr h]

theorem aFieldAddr_congr {t : TypeId} {x : AV} {f : Nat} (h : ∀ b ∈ refsT x, look bs' b = look bs b) : aFieldAddr P bs' t x f = aFieldAddr P bs t x f := by
  cases x <;> first | rfl | skip
  simp only [aFieldAddr, cellsAt_congr h]

theorem aSlice_congr {t : TypeId} {x : AV} {lo hi mx : Option AV} (h : ∀ b ∈ refsT x, look bs' b = look bs b) : aSlice P bs' t x lo hi mx = aSlice P bs t x lo hi mx := by
  cases x <;> first | rfl | skip
  rename_i b v off len
  simp only [aSlice, ldBlk_congr (h b slc_refs)]

theorem aLen_congr {t : TypeId} {x : AV} (h : ∀ b ∈ refsT x, look bs' b = look bs b) : aLen P bs' t x = aLen P bs t x := by
  cases x <;> first | rfl | skip
  rename_i b v off len
  simp only [aLen, rowAt_congr (h b slc_refs)]

theorem aConv_congr {d : Option Tmp} {src dst : TypeId} {x : AV} (h : ∀ b ∈ refsT x, look bs' b = look bs b) (hd : ∀ b ∈ ownK d, look bs' b = look bs b) : aConv P bs' d src dst x = aConv P bs d src dst x := by
  cases x <;> first | rfl | skip
  · simp only [aConv, newRow_congr hd]
  · rename_i b v off len
    simp only [aConv, elemsOf_congr h, ldBlk_congr (h b slc_refs)]

theorem aAppend_congr {d : Option Tmp} {sT xT : TypeId} {s x : AV} (h1 : ∀ b ∈ refsT s, look bs' b = look bs b) (h2 : ∀ b ∈ refsT x, look bs' b = look bs b) (hd : ∀ b ∈ ownK d, look bs' b = look bs b) :
    aAppend P bs' d sT xT s x = aAppend P bs d sT xT s x := by
  unfold aAppend
  rw [appended_congr h2]
  cases s <;> first | rfl | skip
  · simp only [newRow_congr hd]
  · rename_i b v off len
    simp only [ldBlk_congr (h1 b slc_refs)]
    cases d with
    | none => rfl
    | some t => simp only [keyOf, nextV_congr (hd _ own0)]

theorem aCopy_congr {dT : TypeId} {s x : AV} (h1 : ∀ b ∈ refsT s, look bs' b = look bs b) (h2 : ∀ b ∈ refsT x, look bs' b = look bs b) : aCopy P bs' dT s x = aCopy P bs dT s x := by
  cases x <;> simp only [aCopy, elemsOf_congr h2] <;> cases s <;> first | rfl | simp only [ldBlk_congr (h1 _ slc_refs)]

theorem aClear_congr {t : TypeId} {x : AV} (h : ∀ b ∈ refsT x, look bs' b = look bs b) : aClear P bs' t x = aClear P bs t x := by
  cases x with
  | slc x es => cases es <;> rfl
  | sref b v off len => simp only [aClear, ldBlk_congr (h b slc_refs)]
  | _ => rfl

theorem rowsC_refs {a : AV} : ∀ b ∈ rowsC a, b ∈ refsC a := by
  cases a <;> intro b hb <;> simp [rowsC] at hb
  simp [refsC, hb]

theorem rowsA_refs {a : AV} : ∀ b ∈ rowsA a, b ∈ refsT a := by
  cases a with
  | agg cs =>
    intro b hb
    obtain ⟨x, h1, h2⟩ := List.mem_flatMap.1 hb
    exact List.mem_flatMap.2 ⟨x, h1, rowsC_refs b h2⟩
  | sref b' v off len => intro b hb; simp [rowsA, rowsC] at hb; subst hb; exact slc_refs
  | _ => intro b hb; simp [rowsA, rowsC] at hb

theorem rowsA_cells {a x : AV} (hx : x ∈ a.cells) : ∀ b ∈ rowsC x, b ∈ rowsA a := by
  cases a with
  | agg cs => exact fun b hb => List.mem_flatMap.2 ⟨x, hx, hb⟩
  | _ => simp [AV.cells] at hx; subst hx; exact fun b hb => hb

theorem aStore_congr {t : TypeId} {p x : AV} (h1 : ∀ b ∈ refsT p, look bs' b = look bs b) (h2 : ∀ b ∈ refsT x, look bs' b = look bs b) : aStore P bs' t p x = aStore P bs t p x := by
  have h3 : mapO (pureC bs') x.cells = mapO (pureC bs) x.cells := mapO_eq (fun a ha => pureC_congr (fun b hb => h2 b (rowsA_refs b (rowsA_cells ha b hb))))
  have h4 : freeze bs' (rowsA x) = freeze bs (rowsA x) := freeze_congr (fun b hb => h2 b (rowsA_refs b hb))
  unfold aStore
  rw [h3, h4]
  cases p <;> first | rfl | skip
  rename_i b v i off
  simp only [ldBlk_congr (h1 b ptr_refs)]

theorem setAll_congr {sz : Nat} : ∀ {parts : List (Nat × AV)} {es : List AV}, (∀ q ∈ parts, ∀ b ∈ rowsA q.2, look bs' b = look bs b) → setAll bs' sz es parts = setAll bs sz es parts
  | [], _, _ => rfl
  | (i, x) :: r, es, h => by
    simp only [setAll]
    rw [pureA_congr (h (i, x) (by simp))]
    cases pureA bs x with
    | none => rfl
    | some y =>
      simp only
      rw [setAll_congr (fun q hq => h q (by simp [hq]))]

theorem aBuildSlice_congr {d : Option Tmp} {t : TypeId} {len : Nat} {parts : List (Nat × AV)} (h : ∀ q ∈ parts, ∀ b ∈ rowsA q.2, look bs' b = look bs b) (hd : ∀ b ∈ ownK d, look bs' b = look bs b) :
    aBuildSlice P bs' d t len parts = aBuildSlice P bs d t len parts := by
  unfold aBuildSlice
  rw [freeze_congr (fun b hb => let ⟨q, h1, h2⟩ := List.mem_flatMap.1 hb; h q h1 b h2)]
  simp only [setAll_congr h, newRow_congr hd]

theorem frame {cfg : Cfg} {callF : CallF} {s s' : St} {o : Oper} (hev : ∀ x ∈ o.op.operands, s'.ev x = s.ev x) (hA : ∀ b ∈ readsK cfg s o, look s'.bs b = look s.bs b) {v : AV} {ds : List (Nat × Blk)}
    (h : aOp P cfg callF s o = some (.val v ds)) : aOp P cfg callF s' o = some (.val v ds) := by
  obtain ⟨dst, op, type, pos, after, guard⟩ := o
  have hmap : ∀ (l : Array Operand), (∀ x ∈ l, x ∈ op.operands) → l.toList.map s'.ev = l.toList.map s.ev := fun l hl => List.map_congr_left (fun x hx => hev x (hl x (by simpa using hx)))
  have hrd : valueOp op = false → (∀ c, op ≠ .call c) → (∀ x ∈ op.operands, ∀ b ∈ refsT (s.ev x), look s'.bs b = look s.bs b) ∧ ∀ b ∈ ownK dst, look s'.bs b = look s.bs b := by
    intro hv hc
    have e : readsK cfg s { dst := dst, op := op, type := type, pos := pos, after := after, guard := guard } = op.operands.toList.flatMap (fun x => refsT (s.ev x)) ++ ownK dst := by
      cases op <;> first | exact absurd rfl (hc _) | (simp only [readsK, hv]; rfl) | cases hv
    rw [e] at hA
    exact ⟨fun x hx b hb => hA b (List.mem_append.2 (.inl (List.mem_flatMap.2 ⟨x, by simpa using hx, hb⟩))), fun b hb => hA b (List.mem_append.2 (.inr hb))⟩
  cases op <;> simp only [aOp] at h ⊢ <;> try (cases h; done)
  case move x => rw [hev x (by simp [Op.operands])]; exact h
  case assign x => rw [hev x (by simp [Op.operands])]; exact h
  case pick q x y => rw [hev q (by simp [Op.operands]), hev x (by simp [Op.operands]), hev y (by simp [Op.operands])]; exact h
  case alloc t =>
    obtain ⟨_, h2⟩ := hrd rfl (by simp)
    simp only [newBox_congr h2]; exact h
  case box t x =>
    obtain ⟨_, h2⟩ := hrd rfl (by simp)
    rw [hev x (by simp [Op.operands])]
    simp only [newBox_congr h2]; exact h
  case build t ps =>
    have : ps.toList.map (fun x => (x.1, s'.ev x.2)) = ps.toList.map (fun x => (x.1, s.ev x.2)) :=
      List.map_congr_left (fun x hx => by rw [hev x.2 (by simp only [Op.operands]; exact List.mem_toArray.2 (List.mem_map.2 ⟨x, hx, rfl⟩))])
    rw [this]; exact h
  case buildSlice t len ps =>
    obtain ⟨h1, h2⟩ := hrd rfl (by simp)
    have hp : ∀ x ∈ ps.toList, x.2 ∈ Op.operands (.buildSlice t len ps) := fun x hx => by simp only [Op.operands]; exact List.mem_toArray.2 (List.mem_map.2 ⟨x, hx, rfl⟩)
    have : ps.toList.map (fun x => (x.1, s'.ev x.2)) = ps.toList.map (fun x => (x.1, s.ev x.2)) := List.map_congr_left (fun x hx => by rw [hev x.2 (hp x hx)])
    rw [this, aBuildSlice_congr ?_ h2]
    · exact h
    · intro q hq b hb
      obtain ⟨x, hx, rfl⟩ := List.mem_map.1 hq
      exact h1 x.2 (hp x hx) b (rowsA_refs b hb)
  case load t x =>
    obtain ⟨h1, _⟩ := hrd rfl (by simp)
    rw [hev x (by simp [Op.operands])]
    simp only [aLoad, cellsAt_congr (h1 x (by simp [Op.operands]))] at h ⊢
    exact h
  case store t x y =>
    obtain ⟨h1, _⟩ := hrd rfl (by simp)
    rw [hev x (by simp [Op.operands]), hev y (by simp [Op.operands]), aStore_congr (h1 x (by simp [Op.operands])) (h1 y (by simp [Op.operands]))]
    exact h
  case nilCheck x =>
    obtain ⟨h1, _⟩ := hrd rfl (by simp)
    rw [hev x (by simp [Op.operands])]
    have hx := h1 x (by simp [Op.operands])
    generalize s.ev x = y at h hx ⊢
    cases y <;> first | exact h | skip
    simp only at h ⊢
    rw [cellsAt_congr hx]
    exact h
  case binOp op t x y _ => rw [hev x (by simp [Op.operands]), hev y (by simp [Op.operands])]; exact h
  case unOp op t x => rw [hev x (by simp [Op.operands])]; exact h
  case convert src d x =>
    obtain ⟨h1, h2⟩ := hrd rfl (by simp)
    rw [hev x (by simp [Op.operands]), aConv_congr (h1 x (by simp [Op.operands])) h2]; exact h
  case makeInterface t x => rw [hev x (by simp [Op.operands])]; exact h
  case makeFunc fn first captured =>
    cases fn <;> simp only at h ⊢ <;> try (cases h; done)
    rw [hmap first (fun x hx => by simp [Op.operands, hx]), hmap captured (fun x hx => by simp [Op.operands, hx])]; exact h
  case makeSlice t l m =>
    obtain ⟨_, h2⟩ := hrd rfl (by simp)
    rw [hev l (by simp [Op.operands]), hev m (by simp [Op.operands])]
    simp only [aMakeSlice, newRow_congr h2] at h ⊢
    exact h
  case slice t x lo hi mx =>
    obtain ⟨h1, _⟩ := hrd rfl (by simp)
    have e1 : lo.map s'.ev = lo.map s.ev := by cases lo with | none => rfl | some y => simp [hev y (by simp [Op.operands])]
    have e2 : hi.map s'.ev = hi.map s.ev := by cases hi with | none => rfl | some y => simp [hev y (by simp [Op.operands])]
    have e3 : mx.map s'.ev = mx.map s.ev := by cases mx with | none => rfl | some y => simp [hev y (by simp [Op.operands])]
    rw [hev x (by simp [Op.operands]), e1, e2, e3, aSlice_congr (h1 x (by simp [Op.operands]))]; exact h
  case fieldAddr t x f =>
    obtain ⟨h1, _⟩ := hrd rfl (by simp)
    rw [hev x (by simp [Op.operands]), aFieldAddr_congr (h1 x (by simp [Op.operands]))]; exact h
  case field t x f => rw [hev x (by simp [Op.operands])]; exact h
  case indexAddr t x i =>
    obtain ⟨h1, _⟩ := hrd rfl (by simp)
    rw [hev x (by simp [Op.operands]), hev i (by simp [Op.operands]), aIndexAddr_congr (h1 x (by simp [Op.operands]))]; exact h
  case index t x i => rw [hev x (by simp [Op.operands]), hev i (by simp [Op.operands])]; exact h
  case extract t i => rw [hev t (by simp [Op.operands])]; exact h
  case typeAssert x xT asserted ok => rw [hev x (by simp [Op.operands])]; exact h
  case panic x =>
    split at h
    · split at h <;> cases h
    · cases h
  case call cl =>
    obtain ⟨callee, args, argTypes⟩ := cl
    cases callee with
    | value f =>
      simp only at h ⊢
      rw [hev f (by simp [Op.operands, Call.operands])]
      have hargs : args.toList.map s'.ev = args.toList.map s.ev := hmap args (fun x hx => by simp [Op.operands, Call.operands, hx])
      rw [hargs]
      cases hf : s.ev f <;> rw [hf] at h <;> simp only at h ⊢ <;> try (cases h; done)
      have e : ∀ g first captured, s.ev f = .fn g first captured → readsK cfg s { dst := dst, op := .call { callee := .value f, args := args, argTypes := argTypes }, type := type, pos := pos, after := after, guard := guard } =
          callReads s.bs (cfg.byref g) (first ++ args.toList.map s.ev ++ captured) ++ ownK dst := by
        intro g first captured hg
        simp only [readsK, hg]
      rw [e _ _ _ hf] at hA
      exact aCall_congr (fun b hb => hA b (List.mem_append.2 (.inl hb))) (fun b hb => hA b (List.mem_append.2 (.inr hb))) h
    | invoke r m => simp at h
    | builtin b =>
      simp only at h ⊢
      have e : readsK cfg s { dst := dst, op := .call { callee := .builtin b, args := args, argTypes := argTypes }, type := type, pos := pos, after := after, guard := guard } =
          args.toList.flatMap (fun x => refsT (s.ev x)) ++ ownK dst := by
        simp [readsK, valueOp, Op.operands, Call.operands]
      rw [e] at hA
      have h1 : ∀ x ∈ args.toList.map s.ev, ∀ b ∈ refsT x, look s'.bs b = look s.bs b := by
        intro x hx b hb
        obtain ⟨y, hy, rfl⟩ := List.mem_map.1 hx
        exact hA b (List.mem_append.2 (.inl (List.mem_flatMap.2 ⟨y, hy, hb⟩)))
      have h2 : ∀ b ∈ ownK dst, look s'.bs b = look s.bs b := fun b hb => hA b (List.mem_append.2 (.inr hb))
      have hargs : args.toList.map s'.ev = args.toList.map s.ev := hmap args (fun x hx => by simp [Op.operands, Call.operands, hx])
      rw [hargs]
      generalize args.toList.map s.ev = as at h h1 ⊢
      unfold aBuiltin at h ⊢
      cases b <;> simp only at h ⊢ <;> try (cases h; done)
      case len =>
        split at h
        · split at h
          · rename_i x r
            simp only [aLen_congr (h1 x (by simp))]; exact h
          · cases h
        · cases h
      case append =>
        split at h
        · split at h
          · rename_i x y
            simp only [aAppend_congr (h1 x (by simp)) (h1 y (by simp)) h2]; exact h
          · cases h
        · cases h
      case copy =>
        split at h
        · split at h
          · rename_i x y
            simp only [aCopy_congr (h1 x (by simp)) (h1 y (by simp))]; exact h
          · cases h
        · cases h
      case clear =>
        split at h
        · split at h
          · rename_i x r
            simp only [aClear_congr (h1 x (by simp))]; exact h
          · cases h
        · cases h
      case min => exact h
      case max => exact h
  case defer cl =>
    obtain ⟨callee, args, argTypes⟩ := cl
    cases callee <;> simp only at h <;> first | (cases h; done) | (split at h <;> cases h)

end
end Go.Ab
