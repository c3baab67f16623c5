/- What the evaluator's values and blocks mean in a world of the model. -/
import Derived.Test.YtihgfpggdkhhaaaAbEv
import Derived.Laws.CopyRow
import Derived.Laws.Append
set_option linter.unusedVariables false
set_option linter.unusedSimpArgs false
namespace Go.Ab

inductive PV (w : World) (F : Nat → Prop) : AV → Value → Prop
  | undef (v : Value) : PV w F .undef v
  | skp : PV w F .skp Go.undef
  | bool (b : Bool) : PV w F (.bool b) (.bool b)
  | int (k : IntKind) (n : Int) : PV w F (.int k n) (.int k n)
  | str (s : List UInt8) : PV w F (.str s) (.string ⟨s.toArray⟩)
  | agg (cs : List AV) (vs : List Value) (hl : cs.length = vs.length) (hc : ∀ c ∈ cs, c.okC = true)
      (h : ∀ (i : Nat) a v, cs[i]? = some a → vs[i]? = some v → PV w F a v) : PV w F (.agg cs) (.agg vs.toArray)
  | tup (cs : List AV) (vs : List Value) (hl : cs.length = vs.length)
      (h : ∀ (i : Nat) a v, cs[i]? = some a → vs[i]? = some v → PV w F a v) : PV w F (.tup cs) (.tuple vs.toArray)
  | slc (x : Bool) (es : List AV) (a : Option Addr) (cap sz : Nat) (vals : List Value)
      (hx : x = true → cap = es.length) (hcap : es.length ≤ cap)
      (hsz : ∀ e ∈ es, e.cells.length = sz ∧ ∀ c ∈ e.cells, c.okC = true)
      (ha : es ≠ [] → ∃ b o, a = some ⟨b, o, none⟩ ∧ b < w.heap.size ∧ ¬ F b ∧ ∀ (k : Nat) v, vals[k]? = some v → w.cell? ⟨b, o + k, none⟩ = some v)
      (hl : vals.length = (es.flatMap AV.cells).length)
      (hv : ∀ (k : Nat) c v, (es.flatMap AV.cells)[k]? = some c → vals[k]? = some v → PV w F c v) : PV w F (.slc x es) (.slice a es.length cap)
  | pnil : PV w F .pnil (.pointer none)
  | fnil : PV w F .fnil .nilFunc
  | inil : PV w F .inil .nilIface
  | fn (f : FuncId) : PV w F (.fn f [] []) (.func (.func f) #[] #[])
  | iface (t : TypeId) (a : AV) (v : Value) (hs : a.simple = true) (h : PV w F a v) : PV w F (.iface t a) (.iface t v)

structure Cx where
  w : World
  F : Nat → Prop
  R : Nat → Nat
  S : List (Nat × Blk)

inductive V (c : Cx) : AV → Value → Prop
  | pure {a : AV} {v : Value} (h : PV c.w c.F a v) : V c a v
  | agg (cs : List AV) (vs : List Value) (hl : cs.length = vs.length) (hc : ∀ c ∈ cs, c.okC = true)
      (h : ∀ (i : Nat) a v, cs[i]? = some a → vs[i]? = some v → V c a v) : V c (.agg cs) (.agg vs.toArray)
  | tup (cs : List AV) (vs : List Value) (hl : cs.length = vs.length)
      (h : ∀ (i : Nat) a v, cs[i]? = some a → vs[i]? = some v → V c a v) : V c (.tup cs) (.tuple vs.toArray)
  | sref (b v off len : Nat) (val : Value) (h1 : val.oneCell' = true) (x : Blk) (hb : look c.S b = some x) (hv : v ≤ x.v)
      (h : v = x.v → x.k = .row → ∃ cap cells t fr, val = .slice (some ⟨c.R b, off * x.sz, none⟩) len cap ∧ x.es.length ≤ off + cap ∧ len ≤ cap ∧
        c.w.heap[c.R b]? = some (.cells cells t fr) ∧ (off + cap) * x.sz ≤ cells.size) : V c (.sref b v off len) val
  | ptr (b v i off : Nat) (val : Value) (h1 : val.oneCell' = true) (x : Blk) (hb : look c.S b = some x) (hv : v ≤ x.v)
      (h : v = x.v → (x.k = .box → i = 0 → val = .pointer (some ⟨c.R b, off, none⟩)) ∧ (x.k = .row → val = .pointer (some ⟨c.R b, i * x.sz + off, none⟩))) :
      V c (.ptr b v i off) val
  | eptr (e : AV) (off b o : Nat) (vals : List Value) (hb : b < c.w.heap.size) (hF : ¬ c.F b) (hl : vals.length = e.cells.length) (hc : ∀ a ∈ e.cells, a.okC = true)
      (ha : ∀ (k : Nat) v, vals[k]? = some v → c.w.cell? ⟨b, o + k, none⟩ = some v)
      (hv : ∀ (k : Nat) a v, e.cells[k]? = some a → vals[k]? = some v → PV c.w c.F a v) : V c (.eptr e off) (.pointer (some ⟨b, o + off, none⟩))
  | fn (f : FuncId) (fs cs : List AV) (vfs vcs : List Value) (hl1 : fs.length = vfs.length) (hl2 : cs.length = vcs.length)
      (h1 : ∀ (i : Nat) a v, fs[i]? = some a → vfs[i]? = some v → V c a v)
      (h2 : ∀ (i : Nat) a v, cs[i]? = some a → vcs[i]? = some v → V c a v) : V c (.fn f fs cs) (.func (.func f) vfs.toArray vcs.toArray)

/-- Nothing is lost between two states. -/
structure Le (c c' : Cx) : Prop where
  size : c.w.heap.size ≤ c'.w.heap.size
  hF : ∀ b, b < c.w.heap.size → ¬ c.F b → ¬ c'.F b
  hw : ∀ b, b < c.w.heap.size → ¬ c.F b → c'.w.heap[b]? = c.w.heap[b]?
  hS : ∀ b x, look c.S b = some x → ∃ x', look c'.S b = some x' ∧ x.v ≤ x'.v ∧
    (x'.v = x.v → x'.k ≠ .dead → x.k = x'.k ∧ c'.R b = c.R b ∧ x'.sz = x.sz ∧ (x.k = .row → x'.es.length = x.es.length) ∧ (x.fz = true → x'.fz = true) ∧
      ∀ cells t fr, c.w.heap[c.R b]? = some (.cells cells t fr) → ∃ cells' t' fr', c'.w.heap[c'.R b]? = some (.cells cells' t' fr') ∧ cells'.size = cells.size)

theorem cell_of_heap {w w' : World} {b : Nat} (h : w'.heap[b]? = w.heap[b]?) (o : Nat) : w'.cell? ⟨b, o, none⟩ = w.cell? ⟨b, o, none⟩ := by
  simp [World.cell?, h]

theorem PV.mono {w w' : World} {F F' : Nat → Prop} (hs : w.heap.size ≤ w'.heap.size) (hF : ∀ b, b < w.heap.size → ¬ F b → ¬ F' b)
    (hw : ∀ b, b < w.heap.size → ¬ F b → w'.heap[b]? = w.heap[b]?) {a : AV} {v : Value} (h : PV w F a v) : PV w' F' a v := by
  induction h with
  | undef v => exact .undef v
  | skp => exact .skp
  | bool b => exact .bool b
  | int k n => exact .int k n
  | str s => exact .str s
  | agg cs vs hl hc h ih => exact .agg cs vs hl hc ih
  | tup cs vs hl h ih => exact .tup cs vs hl ih
  | slc x es a cap sz vals hx hcap hsz ha hl hv ih =>
    refine .slc x es a cap sz vals hx hcap hsz (fun hne => ?_) hl ih
    obtain ⟨b, o, h1, h2, h3, h4⟩ := ha hne
    exact ⟨b, o, h1, by omega, hF b h2 h3, fun k v hk => by rw [cell_of_heap (hw b h2 h3)]; exact h4 k v hk⟩
  | pnil => exact .pnil
  | fnil => exact .fnil
  | inil => exact .inil
  | fn f => exact .fn f
  | iface t a v hs' h ih => exact .iface t a v hs' ih

theorem V.mono {c c' : Cx} (L : Le c c') {a : AV} {v : Value} (h : V c a v) : V c' a v := by
  induction h with
  | pure h => exact .pure (h.mono L.size L.hF L.hw)
  | agg cs vs hl hc h ih => exact .agg cs vs hl hc ih
  | tup cs vs hl h ih => exact .tup cs vs hl ih
  | sref b v off len val hone x hb hv h =>
    obtain ⟨x', h1, h2, h3⟩ := L.hS b x hb
    refine .sref b v off len val hone x' h1 (by omega) (fun e k => ?_)
    have hxv : x'.v = x.v := by omega
    obtain ⟨k1, k2, k3, k4, _, k5⟩ := h3 hxv (by rw [k]; decide)
    rw [k] at k1
    obtain ⟨cap, cells, t, fr, e1, e2, e3, e4, e5⟩ := h (by omega) k1
    obtain ⟨cells', t', fr', e6, e7⟩ := k5 cells t fr e4
    exact ⟨cap, cells', t', fr', by rw [k2, k3]; exact e1, by rw [k4 k1]; exact e2, e3, e6, by rw [k3, e7]; exact e5⟩
  | ptr b v i off val hone x hb hv h =>
    obtain ⟨x', h1, h2, h3⟩ := L.hS b x hb
    refine .ptr b v i off val hone x' h1 (by omega) (fun e => ⟨fun k hi => ?_, fun k => ?_⟩)
    · have hxv : x'.v = x.v := by omega
      obtain ⟨k1, k2, k3, k4, _, k5⟩ := h3 hxv (by rw [k]; decide)
      rw [k] at k1
      rw [k2]
      exact (h (by omega)).1 k1 hi
    · have hxv : x'.v = x.v := by omega
      obtain ⟨k1, k2, k3, k4, _, k5⟩ := h3 hxv (by rw [k]; decide)
      rw [k] at k1
      rw [k2, k3]
      exact (h (by omega)).2 k1
  | eptr e off b o vals hb hF hl hc ha hv =>
    exact .eptr e off b o vals (by have := L.size; omega) (L.hF b hb hF) hl hc (fun k v hk => by rw [cell_of_heap (L.hw b hb hF)]; exact ha k v hk)
      (fun k a v h1 h2 => (hv k a v h1 h2).mono L.size L.hF L.hw)
  | fn f fs cs vfs vcs hl1 hl2 h1 h2 ih1 ih2 => exact .fn f fs cs vfs vcs hl1 hl2 ih1 ih2

theorem Le.refl (c : Cx) : Le c c :=
  ⟨Nat.le_refl _, fun _ _ h => h, fun _ _ _ => rfl, fun _ x h => ⟨x, h, Nat.le_refl _, fun _ _ => ⟨rfl, rfl, rfl, fun _ => rfl, id, fun cells t fr h => ⟨cells, t, fr, h, rfl⟩⟩⟩⟩

theorem Le.trans {a b c : Cx} (h : Le a b) (h' : Le b c) : Le a c where
  size := Nat.le_trans h.size h'.size
  hF := fun i hi hf => h'.hF i (Nat.lt_of_lt_of_le hi h.size) (h.hF i hi hf)
  hw := fun i hi hf => by rw [h'.hw i (Nat.lt_of_lt_of_le hi h.size) (h.hF i hi hf), h.hw i hi hf]
  hS := fun i x hx => by
    obtain ⟨x1, a1, a2, a3⟩ := h.hS i x hx
    obtain ⟨x2, b1, b2, b3⟩ := h'.hS i x1 a1
    refine ⟨x2, b1, by omega, fun e k => ?_⟩
    obtain ⟨k1, k2, k3, k4, k6, k5⟩ := b3 (by omega) k
    obtain ⟨j1, j2, j3, j4, j6, j5⟩ := a3 (by omega) (by rw [k1]; exact k)
    refine ⟨j1.trans k1, k2.trans j2, k3.trans j3, fun hr => by rw [k4 (by rw [← j1]; exact hr), j4 hr], fun hh => k6 (j6 hh), fun cells t fr hc => ?_⟩
    obtain ⟨c1, t1, f1, m1, m2⟩ := j5 cells t fr hc
    obtain ⟨c2, t2, f2, n1, n2⟩ := k5 c1 t1 f1 m1
    exact ⟨c2, t2, f2, n1, n2.trans m2⟩

/-- Cells that mean these. -/
def Content (c : Cx) (es : List AV) (cells : Array Value) : Prop := ∀ (k : Nat) a, es[k]? = some a → a.okC = true ∧ ∃ v, cells[k]? = some v ∧ V c a v
def PContent (c : Cx) (es : List AV) (cells : Array Value) : Prop := ∀ (k : Nat) a, es[k]? = some a → ∃ v, cells[k]? = some v ∧ PV c.w c.F a v

structure BR (c : Cx) (b : Nat) (x : Blk) : Prop where
  here : ∃ cells t lo hi, c.w.heap[c.R b]? = some (.cells cells t (lo, hi)) ∧ (lo = hi ∨ cells.size ≤ lo) ∧
    (x.k = .box → Content c x.es cells) ∧
    (x.k = .row → (∀ e ∈ x.es, e.cells.length = x.sz ∧ ∀ a ∈ e.cells, a.okC = true) ∧ PContent c (x.es.flatMap AV.cells) cells)

structure WR (w0 : World) (G X Lo : Nat → Prop) (c : Cx) : Prop where
  size : w0.heap.size ≤ c.w.heap.size
  kept : ∀ i, i < w0.heap.size → ¬ G i → c.w.heap[i]? = w0.heap[i]?
  os : c.w.os = w0.os
  out : c.w.output = w0.output
  xs : ∀ i, X i → i < w0.heap.size
  own : ∀ b x, look c.S b = some x → x.k ≠ .dead → (x.fz = false → w0.heap.size ≤ c.R b ∨ G (c.R b)) ∧ ¬ X (c.R b)
  low : ∀ b x, look c.S b = some x → x.k ≠ .dead → w0.heap.size ≤ c.R b ∨ Lo (c.R b)
  inj : ∀ b b' x x', look c.S b = some x → x.k ≠ .dead → look c.S b' = some x' → x'.k ≠ .dead → c.R b = c.R b' → b = b'
  blk : ∀ b x, look c.S b = some x → x.k ≠ .dead → BR c b x
  hF : ∀ i, c.F i ↔ (X i ∨ ∃ b x, look c.S b = some x ∧ x.k ≠ .dead ∧ x.fz = false ∧ c.R b = i)

def fOf (X : Nat → Prop) (R : Nat → Nat) (S : List (Nat × Blk)) (i : Nat) : Prop := X i ∨ ∃ b x, look S b = some x ∧ x.k ≠ .dead ∧ x.fz = false ∧ R b = i

theorem BR.lt {c : Cx} {b : Nat} {x : Blk} (h : BR c b x) : c.R b < c.w.heap.size := by
  obtain ⟨cells, t, lo, hi, h1, _⟩ := h.here
  exact (Array.getElem?_eq_some_iff.1 h1).1

theorem Content.mono {c c' : Cx} (L : Le c c') {es : List AV} {cells : Array Value} (h : Content c es cells) : Content c' es cells :=
  fun k a hk => let ⟨h1, v, h2, h3⟩ := h k a hk; ⟨h1, v, h2, h3.mono L⟩
theorem PContent.mono {c c' : Cx} (L : Le c c') {es : List AV} {cells : Array Value} (h : PContent c es cells) : PContent c' es cells :=
  fun k a hk => let ⟨v, h2, h3⟩ := h k a hk; ⟨v, h2, h3.mono L.size L.hF L.hw⟩

theorem look_cons {α : Type} (j : Nat) (a : α) (r : List (Nat × α)) (i : Nat) : look ((j, a) :: r) i = if j = i then some a else look r i := rfl

def updR (R : Nat → Nat) (b n : Nat) : Nat → Nat := fun i => if i = b then n else R i

/-- A new block. -/
theorem WR.push {w0 : World} {G X Lo : Nat → Prop} {c : Cx} (h : WR w0 G X Lo c) (w1 : World) (hw1 : w1.heap = c.w.heap) (hos : w1.os = c.w.os) (hou : w1.output = c.w.output)
    (b : Nat) (x : Blk) (hxv : x.v = nextV c.S b) (hk : x.k ≠ .dead) (hfz : x.fz = false)
    (cells : Array Value) (t : TypeId) (lo hi : Nat) (hfr : lo = hi ∨ cells.size ≤ lo)
    (hbox : x.k = .box → Content c x.es cells)
    (hrow : x.k = .row → (∀ e ∈ x.es, e.cells.length = x.sz ∧ ∀ a ∈ e.cells, a.okC = true) ∧ PContent c (x.es.flatMap AV.cells) cells) :
    let c' : Cx := { w := { w1 with heap := w1.heap.push (.cells cells t (lo, hi)) }, F := fOf X (updR c.R b c.w.heap.size) ((b, x) :: c.S), R := updR c.R b c.w.heap.size, S := (b, x) :: c.S }
    WR w0 G X Lo c' ∧ Le c c' := by
  intro c'
  have hold : ∀ i, i < c.w.heap.size → c'.w.heap[i]? = c.w.heap[i]? := by
    intro i hi
    show (w1.heap.push _)[i]? = _
    rw [hw1, Array.getElem?_push_lt hi, Array.getElem?_eq_getElem hi]
  have hnew : c'.w.heap[c.w.heap.size]? = some (.cells cells t (lo, hi)) := by
    show (w1.heap.push _)[c.w.heap.size]? = _
    rw [hw1, Array.getElem?_push_size]
  have hR : ∀ i, i ≠ b → c'.R i = c.R i := fun i hi => by show updR _ _ _ i = _; simp [updR, hi]
  have hRb : c'.R b = c.w.heap.size := by show updR _ _ _ b = _; simp [updR]
  have hlook : ∀ i y, look c'.S i = some y → (i = b ∧ y = x) ∨ (i ≠ b ∧ look c.S i = some y) := by
    intro i y hy
    have : look ((b, x) :: c.S) i = some y := hy
    rw [look_cons] at this
    by_cases e : b = i
    · rw [if_pos e] at this; exact .inl ⟨e.symm, (Option.some.inj this).symm⟩
    · rw [if_neg e] at this; exact .inr ⟨fun h => e h.symm, this⟩
  have L : Le c c' := by
    refine ⟨?_, ?_, ?_, ?_⟩
    · show _ ≤ (w1.heap.push _).size
      rw [hw1, Array.size_push]; omega
    · intro i hi hf hf'
      rcases hf' with hx | ⟨b', x', h1, h2, h3, h4⟩
      · exact hf ((h.hF i).2 (.inl hx))
      · rcases hlook b' x' h1 with ⟨rfl, rfl⟩ | ⟨hne, h1'⟩
        · have : c.w.heap.size = i := by rw [← hRb]; exact h4
          omega
        · exact hf ((h.hF i).2 (.inr ⟨b', x', h1', h2, h3, by rw [← hR b' hne]; exact h4⟩))
    · intro i hi _; exact hold i hi
    · intro i y hy
      by_cases e : i = b
      · subst e
        refine ⟨x, by show look ((i, x) :: c.S) i = some x; simp [look_cons], ?_, fun e' _ => ?_⟩
        · rw [hxv]; simp only [nextV, hy]; omega
        · rw [hxv] at e'; simp only [nextV, hy] at e'; omega
      · refine ⟨y, by show look ((b, x) :: c.S) i = some y; rw [look_cons, if_neg (fun h => e h.symm)]; exact hy, Nat.le_refl _, fun _ hd => ?_⟩
        refine ⟨rfl, hR i e, rfl, fun _ => rfl, id, fun cl t' fr hc => ⟨cl, t', fr, ?_, rfl⟩⟩
        rw [hR i e, hold _ (Array.getElem?_eq_some_iff.1 hc).1]; exact hc
  refine ⟨?_, L⟩
  have hlive : ∀ i y, look c.S i = some y → y.k ≠ .dead → c.R i < c.w.heap.size := fun i y h1 h2 => (h.blk i y h1 h2).lt
  refine ⟨?_, ?_, ?_, ?_, h.xs, ?_, ?_, ?_, ?_, fun i => Iff.rfl⟩
  · exact Nat.le_trans h.size L.size
  · intro i hi hg
    rw [hold i (Nat.lt_of_lt_of_le hi h.size)]; exact h.kept i hi hg
  · show w1.os = _; rw [hos]; exact h.os
  · show w1.output = _; rw [hou]; exact h.out
  · intro b' x' h1 h2
    rcases hlook b' x' h1 with ⟨rfl, rfl⟩ | ⟨hne, h1'⟩
    · rw [hRb]
      refine ⟨fun _ => .inl h.size, fun hx => ?_⟩
      have := h.xs _ hx
      have := h.size
      omega
    · rw [hR b' hne]; exact h.own b' x' h1' h2
  · intro b' x' h1 h2
    rcases hlook b' x' h1 with ⟨rfl, rfl⟩ | ⟨hne, h1'⟩
    · rw [hRb]; exact .inl h.size
    · rw [hR b' hne]; exact h.low b' x' h1' h2
  · intro b1 b2 x1 x2 h1 k1 h2 k2 e
    rcases hlook b1 x1 h1 with ⟨e1, _⟩ | ⟨n1, h1'⟩
    · rcases hlook b2 x2 h2 with ⟨e2, _⟩ | ⟨n2, h2'⟩
      · rw [e1, e2]
      · rw [e1, hRb, hR b2 n2] at e
        have := hlive b2 x2 h2' k2
        omega
    · rcases hlook b2 x2 h2 with ⟨e2, _⟩ | ⟨n2, h2'⟩
      · rw [e2, hRb, hR b1 n1] at e
        have := hlive b1 x1 h1' k1
        omega
      · rw [hR b1 n1, hR b2 n2] at e
        exact h.inj b1 b2 x1 x2 h1' k1 h2' k2 e
  · intro b' x' h1 h2
    rcases hlook b' x' h1 with ⟨rfl, rfl⟩ | ⟨hne, h1'⟩
    · refine ⟨cells, t, lo, hi, by rw [hRb]; exact hnew, hfr, fun k => (hbox k).mono L, fun k => ⟨(hrow k).1, (hrow k).2.mono L⟩⟩
    · obtain ⟨cl, t', lo', hi', g1, g2, g3, g4⟩ := (h.blk b' x' h1' h2).here
      refine ⟨cl, t', lo', hi', ?_, g2, fun k => (g3 k).mono L, fun k => ⟨(g4 k).1, (g4 k).2.mono L⟩⟩
      rw [hR b' hne, hold _ (Array.getElem?_eq_some_iff.1 g1).1]; exact g1

theorem look_set {S : List (Nat × Blk)} {b : Nat} {x' : Blk} {i : Nat} {y : Blk} (h : look ((b, x') :: S) i = some y) : (i = b ∧ y = x') ∨ (i ≠ b ∧ look S i = some y) := by
  rw [look_cons] at h
  by_cases e : b = i
  · rw [if_pos e] at h; exact .inl ⟨e.symm, (Option.some.inj h).symm⟩
  · rw [if_neg e] at h; exact .inr ⟨fun h => e h.symm, h⟩

/-- A block's cells are written. -/
theorem WR.setW {w0 : World} {G X Lo : Nat → Prop} {c : Cx} (h : WR w0 G X Lo c) (b : Nat) (x x' : Blk) (hx : look c.S b = some x) (hk : x.k ≠ .dead) (hz : x.fz = false)
    (hv : x'.v = x.v) (hsz : x'.sz = x.sz) (hkk : x'.k = x.k) (hfz : x'.fz = false) (hlen : x.k = .row → x'.es.length = x.es.length)
    (cells cells' : Array Value) (t t' : TypeId) (fr : Nat × Nat) (lo hi : Nat) (hc : c.w.heap[c.R b]? = some (.cells cells t fr)) (hs : cells'.size = cells.size)
    (hfr : lo = hi ∨ cells'.size ≤ lo)
    (w1 : World) (hw1 : w1.heap = c.w.heap.setIfInBounds (c.R b) (.cells cells' t' (lo, hi))) (hos : w1.os = c.w.os) (hou : w1.output = c.w.output)
    (hbox : x.k = .box → Content c x'.es cells')
    (hrow : x.k = .row → (∀ e ∈ x'.es, e.cells.length = x.sz ∧ ∀ a ∈ e.cells, a.okC = true) ∧ PContent c (x'.es.flatMap AV.cells) cells') :
    let c' : Cx := { w := w1, F := fOf X c.R ((b, x') :: c.S), R := c.R, S := (b, x') :: c.S }
    WR w0 G X Lo c' ∧ Le c c' := by
  intro c'
  have hRlt : c.R b < c.w.heap.size := (Array.getElem?_eq_some_iff.1 hc).1
  have hbF : c.F (c.R b) := (h.hF _).2 (.inr ⟨b, x, hx, hk, hz, rfl⟩)
  have hold : ∀ i, i ≠ c.R b → c'.w.heap[i]? = c.w.heap[i]? := by
    intro i hi
    show w1.heap[i]? = _
    rw [hw1, Array.getElem?_setIfInBounds_ne (fun e => hi e.symm)]
  have hnew : c'.w.heap[c.R b]? = some (.cells cells' t' (lo, hi)) := by
    show w1.heap[_]? = _
    rw [hw1, Array.getElem?_setIfInBounds_self_of_lt hRlt]
  have hb' : look ((b, x') :: c.S) b = some x' := by simp [look_cons]
  have L : Le c c' := by
    refine ⟨?_, ?_, ?_, ?_⟩
    · show _ ≤ w1.heap.size
      rw [hw1, Array.size_setIfInBounds]; exact Nat.le_refl _
    · intro i _ hf hf'
      rcases hf' with hx' | ⟨b', y, h1, h2, h3, h4⟩
      · exact hf ((h.hF i).2 (.inl hx'))
      · rcases look_set h1 with ⟨rfl, rfl⟩ | ⟨_, h1'⟩
        · exact hf (h4 ▸ hbF)
        · exact hf ((h.hF i).2 (.inr ⟨b', y, h1', h2, h3, h4⟩))
    · intro i _ hf
      exact hold i (fun e => hf (e ▸ hbF))
    · intro i y hy
      by_cases e : i = b
      · subst e
        have : y = x := Option.some.inj (hy.symm.trans hx)
        subst this
        refine ⟨x', hb', by omega, fun _ _ => ⟨hkk.symm, rfl, hsz, hlen, fun hh => (by rw [hz] at hh; cases hh), fun cl t1 f1 hc1 => ⟨cells', t', (lo, hi), hnew, ?_⟩⟩⟩
        rw [hc] at hc1
        injection hc1 with hc1
        injection hc1 with hc1
        rw [hs, hc1]
      · refine ⟨y, by show look ((b, x') :: c.S) i = some y; rw [look_cons, if_neg (fun h => e h.symm)]; exact hy, Nat.le_refl _, fun _ hd => ?_⟩
        have hne : c.R i ≠ c.R b := fun e' => e (h.inj i b y x hy hd hx hk e')
        exact ⟨rfl, rfl, rfl, fun _ => rfl, id, fun cl t1 f1 hc1 => ⟨cl, t1, f1, by rw [hold _ hne]; exact hc1, rfl⟩⟩
  refine ⟨?_, L⟩
  refine ⟨Nat.le_trans h.size L.size, ?_, by show w1.os = _; rw [hos]; exact h.os, by show w1.output = _; rw [hou]; exact h.out, h.xs, ?_, ?_, ?_, ?_, fun i => Iff.rfl⟩
  · intro i hi hg
    have hne : i ≠ c.R b := by
      rintro rfl
      rcases (h.own b x hx hk).1 hz with h1 | h1
      · omega
      · exact hg h1
    rw [hold i hne]; exact h.kept i hi hg
  · intro b' y h1 h2
    rcases look_set h1 with ⟨rfl, rfl⟩ | ⟨_, h1'⟩
    · exact ⟨fun _ => (h.own b' x hx hk).1 hz, (h.own b' x hx hk).2⟩
    · exact h.own b' y h1' h2
  · intro b' y h1 h2
    rcases look_set h1 with ⟨rfl, rfl⟩ | ⟨_, h1'⟩
    · exact h.low b' x hx hk
    · exact h.low b' y h1' h2
  · intro b1 b2 x1 x2 h1 k1 h2 k2 e
    have g : ∀ i y, look c'.S i = some y → y.k ≠ .dead → ∃ z, look c.S i = some z ∧ z.k ≠ .dead := by
      intro i y hy hd
      rcases look_set hy with ⟨rfl, rfl⟩ | ⟨_, hy'⟩
      · exact ⟨x, hx, hk⟩
      · exact ⟨y, hy', hd⟩
    obtain ⟨z1, a1, a2⟩ := g b1 x1 h1 k1
    obtain ⟨z2, a3, a4⟩ := g b2 x2 h2 k2
    exact h.inj b1 b2 z1 z2 a1 a2 a3 a4 e
  · intro b' y h1 h2
    rcases look_set h1 with ⟨rfl, rfl⟩ | ⟨hne, h1'⟩
    · exact ⟨cells', t', lo, hi, hnew, hfr, fun k => (hbox (hkk ▸ k)).mono L, fun k => by
        have := hrow (hkk ▸ k)
        exact ⟨by rw [hsz]; exact this.1, this.2.mono L⟩⟩
    · have hne' : c.R b' ≠ c.R b := fun e' => hne (h.inj b' b y x h1' h2 hx hk e')
      obtain ⟨cl, t1, lo1, hi1, g1, g2, g3, g4⟩ := (h.blk b' y h1' h2).here
      exact ⟨cl, t1, lo1, hi1, by rw [hold _ hne']; exact g1, g2, fun k => (g3 k).mono L, fun k => ⟨(g4 k).1, (g4 k).2.mono L⟩⟩

/-- A block is written no more, or is no more. -/
theorem WR.setA {w0 : World} {G X Lo : Nat → Prop} {c : Cx} (h : WR w0 G X Lo c) (b : Nat) (x x' : Blk) (hx : look c.S b = some x)
    (hv : x'.v = x.v) (hsz : x'.sz = x.sz) (hes : x'.es = x.es) (hkk : x'.k = x.k ∨ x'.k = .dead) (hfz : x'.fz = x.fz ∨ x'.fz = true) :
    let c' : Cx := { w := c.w, F := fOf X c.R ((b, x') :: c.S), R := c.R, S := (b, x') :: c.S }
    WR w0 G X Lo c' ∧ Le c c' := by
  intro c'
  have hb' : look ((b, x') :: c.S) b = some x' := by simp [look_cons]
  have g : ∀ i y, look c'.S i = some y → y.k ≠ .dead → ∃ z, look c.S i = some z ∧ z.k = y.k ∧ (y.fz = false → z.fz = false) ∧ z.es = y.es ∧ z.sz = y.sz := by
    intro i y hy hd
    rcases look_set hy with ⟨rfl, rfl⟩ | ⟨_, hy'⟩
    · rcases hkk with e | e
      · refine ⟨x, hx, e.symm, fun hf => ?_, hes.symm, hsz.symm⟩
        rcases hfz with e2 | e2
        · rw [← e2]; exact hf
        · rw [hf] at e2; cases e2
      · exact absurd e hd
    · exact ⟨y, hy', rfl, fun hf => hf, rfl, rfl⟩
  have hsub : ∀ i, c'.F i → c.F i := by
    intro i hf
    rcases hf with hx' | ⟨b', y, h1, h2, h3, h4⟩
    · exact (h.hF i).2 (.inl hx')
    · obtain ⟨z, a1, a2, a3, _⟩ := g b' y h1 h2
      exact (h.hF i).2 (.inr ⟨b', z, a1, by rw [a2]; exact h2, a3 h3, h4⟩)
  have L : Le c c' := by
    refine ⟨Nat.le_refl _, fun i _ hf hf' => hf (hsub i hf'), fun _ _ _ => rfl, fun i y hy => ?_⟩
    by_cases e : i = b
    · subst e
      have : y = x := Option.some.inj (hy.symm.trans hx)
      subst this
      refine ⟨x', hb', by omega, fun _ hd => ⟨?_, rfl, hsz, fun _ => by rw [hes], ?_, fun cl t1 f1 hc1 => ⟨cl, t1, f1, hc1, rfl⟩⟩⟩
      · rcases hkk with e | e
        · exact e.symm
        · exact absurd e hd
      · intro hh
        rcases hfz with e | e
        · rw [e]; exact hh
        · exact e
    · exact ⟨y, by show look ((b, x') :: c.S) i = some y; rw [look_cons, if_neg (fun h => e h.symm)]; exact hy, Nat.le_refl _, fun _ _ => ⟨rfl, rfl, rfl, fun _ => rfl, id, fun cl t1 f1 hc1 => ⟨cl, t1, f1, hc1, rfl⟩⟩⟩
  refine ⟨⟨h.size, h.kept, h.os, h.out, h.xs, ?_, ?_, ?_, ?_, fun i => Iff.rfl⟩, L⟩
  · intro b' y h1 h2
    obtain ⟨z, a1, a2, a3, _⟩ := g b' y h1 h2
    obtain ⟨o1, o2⟩ := h.own b' z a1 (by rw [a2]; exact h2)
    exact ⟨fun hf => o1 (a3 hf), o2⟩
  · intro b' y h1 h2
    obtain ⟨z, a1, a2, _⟩ := g b' y h1 h2
    exact h.low b' z a1 (by rw [a2]; exact h2)
  · intro b1 b2 x1 x2 h1 k1 h2 k2 e
    obtain ⟨z1, a1, a2, _⟩ := g b1 x1 h1 k1
    obtain ⟨z2, a3, a4, _⟩ := g b2 x2 h2 k2
    exact h.inj b1 b2 z1 z2 a1 (by rw [a2]; exact k1) a3 (by rw [a4]; exact k2) e
  · intro b' y h1 h2
    obtain ⟨z, a1, a2, _, a4, a5⟩ := g b' y h1 h2
    obtain ⟨cl, t1, lo1, hi1, g1, g2, g3, g4⟩ := (h.blk b' z a1 (by rw [a2]; exact h2)).here
    rw [a2, a4] at g3 g4
    rw [a5] at g4
    exact ⟨cl, t1, lo1, hi1, g1, g2, fun k => (g3 k).mono L, fun k => ⟨(g4 k).1, (g4 k).2.mono L⟩⟩

/-- A world that is the same but for what was drawn. -/
theorem WR.same {w0 : World} {G X Lo : Nat → Prop} {c : Cx} (h : WR w0 G X Lo c) (w1 : World) (hw1 : w1.heap = c.w.heap) (hos : w1.os = c.w.os) (hou : w1.output = c.w.output) :
    WR w0 G X Lo { c with w := w1 } ∧ Le c { c with w := w1 } := by
  have L : Le c { c with w := w1 } := by
    refine ⟨by show _ ≤ w1.heap.size; rw [hw1]; exact Nat.le_refl _, fun i _ hf => hf, fun i _ _ => by show w1.heap[i]? = _; rw [hw1], fun i y hy => ⟨y, hy, Nat.le_refl _, fun _ _ => ⟨rfl, rfl, rfl, fun _ => rfl, id, fun cl t1 f1 hc1 => ⟨cl, t1, f1, ?_, rfl⟩⟩⟩⟩
    show w1.heap[c.R i]? = _
    rw [hw1]; exact hc1
  refine ⟨⟨Nat.le_trans h.size L.size, fun i hi hg => ?_, by show w1.os = _; rw [hos]; exact h.os, by show w1.output = _; rw [hou]; exact h.out, h.xs, h.own, h.low, h.inj, ?_, h.hF⟩, L⟩
  · show w1.heap[i]? = _
    rw [hw1]; exact h.kept i hi hg
  · intro b' y h1 h2
    obtain ⟨cl, t1, lo1, hi1, g1, g2, g3, g4⟩ := (h.blk b' y h1 h2).here
    refine ⟨cl, t1, lo1, hi1, ?_, g2, fun k => (g3 k).mono L, fun k => ⟨(g4 k).1, (g4 k).2.mono L⟩⟩
    show w1.heap[c.R b']? = _
    rw [hw1]; exact g1

def deadIf (k b : Nat) (x : Blk) (S : List (Nat × Blk)) : List (Nat × Blk) := if k = b then S else (b, { x with k := .dead }) :: S

theorem look_deadIf {k b : Nat} {x : Blk} {S : List (Nat × Blk)} {i : Nat} (hik : i ≠ k) {y : Blk} (h : look (deadIf k b x S) i = some y) (hd : y.k ≠ .dead) : i ≠ b ∧ look S i = some y := by
  unfold deadIf at h
  split at h
  · rename_i e; subst e; exact ⟨hik, h⟩
  · rcases look_set h with ⟨_, rfl⟩ | ⟨h1, h2⟩
    · exact absurd rfl hd
    · exact ⟨h1, h2⟩

/-- A row grows where it lies: under a new name. -/
theorem WR.regrow {w0 : World} {G X Lo : Nat → Prop} {c : Cx} (h : WR w0 G X Lo c) (b : Nat) (x x' : Blk) (hx : look c.S b = some x) (hk : x.k ≠ .dead) (hz : x.fz = false)
    (k : Nat) (hv : x'.v = nextV c.S k) (hk' : x'.k = .row) (hfz : x'.fz = false)
    (cells cells' : Array Value) (t t' : TypeId) (fr : Nat × Nat) (lo hi : Nat) (hc : c.w.heap[c.R b]? = some (.cells cells t fr))
    (hfr : lo = hi ∨ cells'.size ≤ lo)
    (w1 : World) (hw1 : w1.heap = c.w.heap.setIfInBounds (c.R b) (.cells cells' t' (lo, hi))) (hos : w1.os = c.w.os) (hou : w1.output = c.w.output)
    (hrow : (∀ e ∈ x'.es, e.cells.length = x'.sz ∧ ∀ a ∈ e.cells, a.okC = true) ∧ PContent c (x'.es.flatMap AV.cells) cells') :
    let c' : Cx := { w := w1, F := fOf X (updR c.R k (c.R b)) ((k, x') :: deadIf k b x c.S), R := updR c.R k (c.R b), S := (k, x') :: deadIf k b x c.S }
    WR w0 G X Lo c' ∧ Le c c' := by
  intro c'
  have hRlt : c.R b < c.w.heap.size := (Array.getElem?_eq_some_iff.1 hc).1
  have hbF : c.F (c.R b) := (h.hF _).2 (.inr ⟨b, x, hx, hk, hz, rfl⟩)
  have hold : ∀ i, i ≠ c.R b → c'.w.heap[i]? = c.w.heap[i]? := by
    intro i hi
    show w1.heap[i]? = _
    rw [hw1, Array.getElem?_setIfInBounds_ne (fun e => hi e.symm)]
  have hnew : c'.w.heap[c.R b]? = some (.cells cells' t' (lo, hi)) := by
    show w1.heap[_]? = _
    rw [hw1, Array.getElem?_setIfInBounds_self_of_lt hRlt]
  have hRk : c'.R k = c.R b := by show updR _ _ _ k = _; simp [updR]
  have hRn : ∀ i, i ≠ k → c'.R i = c.R i := fun i hi => by show updR _ _ _ i = _; simp [updR, hi]
  have hlook : ∀ i y, look c'.S i = some y → y.k ≠ .dead → (i = k ∧ y = x') ∨ (i ≠ k ∧ i ≠ b ∧ look c.S i = some y) := by
    intro i y hy hd
    rcases look_set hy with ⟨rfl, rfl⟩ | ⟨hne, hy'⟩
    · exact .inl ⟨rfl, rfl⟩
    · obtain ⟨h1, h2⟩ := look_deadIf hne hy' hd
      exact .inr ⟨hne, h1, h2⟩
  have L : Le c c' := by
    refine ⟨?_, ?_, ?_, ?_⟩
    · show _ ≤ w1.heap.size
      rw [hw1, Array.size_setIfInBounds]; exact Nat.le_refl _
    · intro i _ hf hf'
      rcases hf' with hx' | ⟨b', y, h1, h2, h3, h4⟩
      · exact hf ((h.hF i).2 (.inl hx'))
      · rcases hlook b' y h1 h2 with ⟨rfl, rfl⟩ | ⟨n1, n2, h1'⟩
        · exact hf (by rw [← h4]; show c.F (c'.R b'); rw [hRk]; exact hbF)
        · exact hf ((h.hF i).2 (.inr ⟨b', y, h1', h2, h3, by rw [← hRn b' n1]; exact h4⟩))
    · intro i _ hf
      exact hold i (fun e => hf (e ▸ hbF))
    · intro i y hy
      by_cases e : i = k
      · subst e
        refine ⟨x', by show look ((i, x') :: _) i = _; simp [look_cons], ?_, fun e' _ => ?_⟩
        · rw [hv]; simp only [nextV, hy]; omega
        · rw [hv] at e'; simp only [nextV, hy] at e'; omega
      · by_cases e2 : i = b
        · subst e2
          have : y = x := Option.some.inj (hy.symm.trans hx)
          subst this
          refine ⟨{ y with k := .dead }, ?_, Nat.le_refl _, fun _ hd => absurd rfl hd⟩
          show look ((k, x') :: _) i = _
          rw [look_cons, if_neg (fun h => e h.symm)]
          unfold deadIf
          rw [if_neg (fun h => e h.symm)]
          simp [look_cons]
        · refine ⟨y, ?_, Nat.le_refl _, fun _ hd => ?_⟩
          · show look ((k, x') :: _) i = _
            rw [look_cons, if_neg (fun h => e h.symm)]
            unfold deadIf
            split
            · exact hy
            · rw [look_cons, if_neg (fun h => e2 h.symm)]; exact hy
          · have hne : c.R i ≠ c.R b := fun e' => e2 (h.inj i b y x hy hd hx hk e')
            exact ⟨rfl, hRn i e, rfl, fun _ => rfl, id, fun cl t1 f1 hc1 => ⟨cl, t1, f1, by rw [hRn i e, hold _ hne]; exact hc1, rfl⟩⟩
  refine ⟨?_, L⟩
  refine ⟨Nat.le_trans h.size L.size, ?_, by show w1.os = _; rw [hos]; exact h.os, by show w1.output = _; rw [hou]; exact h.out, h.xs, ?_, ?_, ?_, ?_, fun i => Iff.rfl⟩
  · intro i hi hg
    have hne : i ≠ c.R b := by
      rintro rfl
      rcases (h.own b x hx hk).1 hz with h1 | h1
      · omega
      · exact hg h1
    rw [hold i hne]; exact h.kept i hi hg
  · intro b' y h1 h2
    rcases hlook b' y h1 h2 with ⟨rfl, rfl⟩ | ⟨n1, n2, h1'⟩
    · rw [hRk]; exact ⟨fun _ => (h.own b x hx hk).1 hz, (h.own b x hx hk).2⟩
    · rw [hRn b' n1]; exact h.own b' y h1' h2
  · intro b' y h1 h2
    rcases hlook b' y h1 h2 with ⟨rfl, rfl⟩ | ⟨n1, n2, h1'⟩
    · rw [hRk]; exact h.low b x hx hk
    · rw [hRn b' n1]; exact h.low b' y h1' h2
  · intro b1 b2 x1 x2 h1 k1 h2 k2 e
    rcases hlook b1 x1 h1 k1 with ⟨e1, _⟩ | ⟨n1, m1, h1'⟩
    · rcases hlook b2 x2 h2 k2 with ⟨e2, _⟩ | ⟨n2, m2, h2'⟩
      · rw [e1, e2]
      · rw [e1, hRk, hRn b2 n2] at e
        exact absurd (h.inj b2 b x2 x h2' k2 hx hk e.symm) m2
    · rcases hlook b2 x2 h2 k2 with ⟨e2, _⟩ | ⟨n2, m2, h2'⟩
      · rw [e2, hRk, hRn b1 n1] at e
        exact absurd (h.inj b1 b x1 x h1' k1 hx hk e) m1
      · rw [hRn b1 n1, hRn b2 n2] at e
        exact h.inj b1 b2 x1 x2 h1' k1 h2' k2 e
  · intro b' y h1 h2
    rcases hlook b' y h1 h2 with ⟨rfl, rfl⟩ | ⟨n1, n2, h1'⟩
    · refine ⟨cells', t', lo, hi, by rw [hRk]; exact hnew, hfr, ?_, ?_⟩
      · intro e; rw [hk'] at e; cases e
      · exact fun _ => ⟨hrow.1, hrow.2.mono L⟩
    · have hne' : c.R b' ≠ c.R b := fun e' => n2 (h.inj b' b y x h1' h2 hx hk e')
      obtain ⟨cl, t1, lo1, hi1, g1, g2, g3, g4⟩ := (h.blk b' y h1' h2).here
      exact ⟨cl, t1, lo1, hi1, by rw [hRn b' n1, hold _ hne']; exact g1, g2, fun k => (g3 k).mono L, fun k => ⟨(g4 k).1, (g4 k).2.mono L⟩⟩

end Go.Ab
