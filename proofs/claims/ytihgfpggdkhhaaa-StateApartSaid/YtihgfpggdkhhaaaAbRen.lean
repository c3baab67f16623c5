/- Values under other names. -/
import Derived.Test.YtihgfpggdkhhaaaAbMem
set_option linter.unusedVariables false
set_option linter.unusedSimpArgs false
namespace Go.Ab
open Go

/-- What a new name must stand for. -/
def NmOk (c c' : Cx) (b v : Nat) : Nm → Prop
  | .key b' v' => ∃ x, look c.S b = some x ∧ x.v = v ∧ ∃ x', look c'.S b' = some x' ∧ v' ≤ x'.v ∧
      (x'.v = v' → x'.k ≠ .dead → x'.k = x.k ∧ c'.R b' = c.R b ∧ x'.sz = x.sz ∧ (x.k = .row → x'.es.length = x.es.length) ∧
        ∀ cells t fr, c.w.heap[c.R b]? = some (.cells cells t fr) → ∃ cells' t' fr', c'.w.heap[c'.R b']? = some (.cells cells' t' fr') ∧ cells'.size = cells.size)
  | .row es => ∃ x, look c.S b = some x ∧ x.v = v ∧ x.k = .row ∧ x.es.length = es.length ∧ (∀ e ∈ es, e.cells.length = x.sz ∧ ∀ a ∈ e.cells, a.okC = true) ∧ c.R b < c'.w.heap.size ∧ ¬ c'.F (c.R b) ∧
      ∃ cells t fr, c'.w.heap[c.R b]? = some (.cells cells t fr) ∧ PContent c' (es.flatMap AV.cells) cells

structure Ren (c c' : Cx) (m : Nat → Nat → Option Nm) : Prop where
  size : c.w.heap.size ≤ c'.w.heap.size
  hF : ∀ b, b < c.w.heap.size → ¬ c.F b → ¬ c'.F b
  hw : ∀ b, b < c.w.heap.size → ¬ c.F b → c'.w.heap[b]? = c.w.heap[b]?
  nm : ∀ b v n, m b v = some n → NmOk c c' b v n

section
variable {c c' : Cx} {m : Nat → Nat → Option Nm}

theorem simpleC_V {a : AV} {v : Value} (hs : a.simpleC = true) {w w' : World} {F F' : Nat → Prop} (h : PV w F a v) : PV w' F' a v := by
  cases h <;> first | (cases hs; done) | constructor

theorem simple_V {a : AV} {v : Value} (hs : a.simple = true) {w w' : World} {F F' : Nat → Prop} (h : PV w F a v) : PV w' F' a v := by
  cases h with
  | agg cs vs hl hc h => exact .agg cs vs hl hc (fun i a v h1 h2 => simpleC_V (List.all_eq_true.1 hs a (List.mem_of_getElem? h1)) (h i a v h1 h2))
  | undef => cases hs
  | skp => cases hs
  | bool => exact .bool _
  | int => exact .int _ _
  | str => exact .str _
  | tup => cases hs
  | slc => cases hs
  | pnil => exact .pnil
  | fnil => exact .fnil
  | inil => exact .inil
  | fn => cases hs
  | iface => cases hs

theorem Ren.pv (h : Ren c c' m) {a : AV} {v : Value} (hp : PV c.w c.F a v) : PV c'.w c'.F a v := hp.mono h.size h.hF h.hw

theorem flat_take_get {es : List AV} {sz : Nat} (h : ∀ e ∈ es, e.cells.length = sz) (off len : Nat) {k : Nat} {a : AV} (hk : (((es.drop off).take len).flatMap AV.cells)[k]? = some a) :
    (es.flatMap AV.cells)[off * sz + k]? = some a := by
  rw [take_cells es off len sz h, List.getElem?_take] at hk
  split at hk
  · rw [List.getElem?_drop] at hk; exact hk
  · cases hk

theorem renC_ok (h : Ren c c' m) {a a' : AV} {v : Value} (hv : V c a v) (hr : renC m a = some a') : V c' a' v ∧ a'.okC = true := by
  cases a with
  | sref b w off len =>
    simp only [renC] at hr
    obtain ⟨x, hx, hle, hq⟩ := hv.sref_inv
    split at hr
    · rename_i b' v' hm
      cases hr
      obtain ⟨y, hy, hyv, x', hx', hxv, hk⟩ := h.nm _ _ _ hm
      have : y = x := Option.some.inj (hy.symm.trans hx)
      subst this
      refine ⟨.sref _ _ _ _ _ (hv.oneCell rfl) x' hx' (by omega) (fun ev hrow => ?_), rfl⟩
      obtain ⟨k1, k2, k3, k4, k5⟩ := hk ev.symm (by rw [hrow]; decide)
      rw [hrow] at k1
      obtain ⟨cap, cells, t, fr, e1, e2, e3, e4, e5⟩ := hq hyv.symm k1.symm
      obtain ⟨cells', t', fr', e6, e7⟩ := k5 cells t fr e4
      exact ⟨cap, cells', t', fr', by rw [k2, k3]; exact e1, by rw [k4 k1.symm]; exact e2, e3, e6, by rw [k3, e7]; exact e5⟩
    · rename_i es hm
      split at hr
      · rename_i hle2
        cases hr
        obtain ⟨y, hy, hyv, hk, hlen, hel, hlt, hF, cells, t, fr, hc, hcont⟩ := h.nm _ _ _ hm
        have : y = x := Option.some.inj (hy.symm.trans hx)
        subst this
        obtain ⟨cap, cells0, t0, fr0, rfl, e2, e3, e4, e5⟩ := hq hyv.symm hk
        refine ⟨.pure ?_, rfl⟩
        have hu : ∀ e ∈ es, e.cells.length = y.sz := fun e he => (hel e he).1
        have hl : ((es.drop off).take len).length = len := by rw [List.length_take, List.length_drop]; omega
        have hflen : (((es.drop off).take len).flatMap AV.cells).length = len * y.sz := by
          rw [flat_len (fun e he => hu e (List.mem_of_mem_drop (List.mem_of_mem_take he))), hl]
        have hget : ∀ (k : Nat) a, (((es.drop off).take len).flatMap AV.cells)[k]? = some a → ∃ v, cells[off * y.sz + k]? = some v ∧ PV c'.w c'.F a v :=
          fun k a hk => hcont _ a (flat_take_get hu off len hk)
        have key := PV.slc (w := c'.w) (F := c'.F) false ((es.drop off).take len) (some ⟨c.R b, off * y.sz, none⟩) cap y.sz ((cells.toList.drop (off * y.sz)).take (len * y.sz))
          (fun h => by cases h) (by rw [hl]; exact e3) (fun e he => hel e (List.mem_of_mem_drop (List.mem_of_mem_take he)))
          (fun _ => ⟨_, _, rfl, hlt, hF, fun k u hk => ?_⟩) ?_ (fun k a u h1 h2 => ?_)
        · rw [hl] at key; exact key
        · rw [List.getElem?_take] at hk
          split at hk
          · rw [List.getElem?_drop, Array.getElem?_toList] at hk
            simp [World.cell?, hc, hk]
          · cases hk
        · rw [hflen, List.length_take, List.length_drop]
          rcases Nat.eq_zero_or_pos (len * y.sz) with h0 | h0
          · omega
          · obtain ⟨u, hu', _⟩ := hget (len * y.sz - 1) _ (List.getElem?_eq_getElem (by omega))
            have := (Array.getElem?_eq_some_iff.1 hu').1
            have hs : cells.toList.length = cells.size := Array.length_toList
            omega
        · obtain ⟨u', hu', hp⟩ := hget k a h1
          rw [List.getElem?_take] at h2
          split at h2
          · rw [List.getElem?_drop, Array.getElem?_toList, hu'] at h2
            cases h2
            exact hp
          · cases h2
      · cases hr
    · cases hr
  | ptr b w i off =>
    simp only [renC] at hr
    obtain ⟨x, hx, hle, hq⟩ := hv.ptr_inv
    split at hr
    · rename_i b' v' hm
      cases hr
      obtain ⟨y, hy, hyv, x', hx', hxv, hk⟩ := h.nm _ _ _ hm
      have : y = x := Option.some.inj (hy.symm.trans hx)
      subst this
      refine ⟨.ptr _ _ _ _ _ (hv.oneCell rfl) x' hx' (by omega) (fun ev => ⟨fun hb hi => ?_, fun hrow => ?_⟩), rfl⟩
      · obtain ⟨k1, k2, k3, k4, k5⟩ := hk ev.symm (by rw [hb]; decide)
        rw [hb] at k1
        rw [k2]
        exact (hq hyv.symm).1 k1.symm hi
      · obtain ⟨k1, k2, k3, k4, k5⟩ := hk ev.symm (by rw [hrow]; decide)
        rw [hrow] at k1
        rw [k2, k3]
        exact (hq hyv.symm).2 k1.symm
    · cases hr
  | eptr e off =>
    simp only [renC] at hr
    cases hr
    obtain ⟨b, o, vals, rfl, h1, h2, h3, h4, h5, h6⟩ := hv.eptr_inv
    exact ⟨.eptr e off b o vals (Nat.lt_of_lt_of_le h1 h.size) (h.hF b h1 h2) h3 h4 (fun k u hk => by rw [cell_of_heap (h.hw b h1 h2)]; exact h5 k u hk) (fun k a u g1 g2 => h.pv (h6 k a u g1 g2)), rfl⟩
  | iface t a =>
    simp only [renC] at hr
    split at hr
    · cases hr
      obtain ⟨u, rfl, hs, hp⟩ := hv.iface_inv
      exact ⟨.pure (.iface _ _ _ hs (h.pv hp)), rfl⟩
    · cases hr
  | fn f fs cs =>
    cases fs with
    | cons => simp [renC] at hr
    | nil => cases cs with
      | cons => simp [renC] at hr
      | nil =>
        simp only [renC] at hr
        cases hr
        obtain ⟨vfs, vcs, rfl, h1, h2, _⟩ := hv.fn_inv
        have e1 : vfs = [] := List.eq_nil_of_length_eq_zero (by simpa using h1.symm)
        have e2 : vcs = [] := List.eq_nil_of_length_eq_zero (by simpa using h2.symm)
        subst e1; subst e2
        exact ⟨.pure (.fn _), rfl⟩
  | bool b => simp only [renC] at hr; cases hr; rw [hv.bool_inv]; exact ⟨.pure (.bool _), rfl⟩
  | int k n => simp only [renC] at hr; cases hr; rw [hv.int_inv]; exact ⟨.pure (.int _ _), rfl⟩
  | str s => simp only [renC] at hr; cases hr; rw [hv.str_inv]; exact ⟨.pure (.str _), rfl⟩
  | slc x es => simp only [renC] at hr; cases hr; exact ⟨.pure (h.pv hv.slc_inv), rfl⟩
  | pnil => simp only [renC] at hr; cases hr; rw [hv.pnil_inv]; exact ⟨.pure .pnil, rfl⟩
  | fnil => simp only [renC] at hr; cases hr; rw [hv.fnil_inv]; exact ⟨.pure .fnil, rfl⟩
  | inil => simp only [renC] at hr; cases hr; rw [hv.inil_inv]; exact ⟨.pure .inil, rfl⟩
  | undef => simp [renC] at hr
  | skp => simp [renC] at hr
  | agg => simp [renC] at hr
  | tup => simp [renC] at hr

theorem mapO_ok {f : AV → Option AV} {p : AV → Prop} (hf : ∀ a a' v, V c a v → f a = some a' → V c' a' v ∧ p a') :
    ∀ {as rs : List AV} {vs : List Value}, mapO f as = some rs → VL c as vs → VL c' rs vs ∧ ∀ a ∈ rs, p a
  | [], rs, vs, h, hv => by
    simp [mapO] at h; subst h
    have : vs = [] := List.eq_nil_of_length_eq_zero (by simpa using hv.1.symm)
    subst this
    exact ⟨VL.nil, fun _ h => by simp at h⟩
  | a :: as, rs, vs, h, hv => by
    obtain ⟨v, r, rfl, h1, h2⟩ := VL.of_cons hv
    simp only [mapO] at h
    split at h
    · rename_i b hb
      split at h
      · rename_i bs hbs
        cases h
        obtain ⟨i1, i2⟩ := mapO_ok hf hbs h2
        obtain ⟨j1, j2⟩ := hf a b v h1 hb
        exact ⟨VL.cons j1 i1, fun x hx => by
          rcases List.mem_cons.1 hx with rfl | hx
          · exact j2
          · exact i2 x hx⟩
      · cases h
    · cases h

theorem renD_ok (h : Ren c c' m) {a a' : AV} {v : Value} (hv : V c a v) (hr : renD m a = some a') : V c' a' v ∧ a'.okC = true := by
  unfold renD at hr
  split at hr
  · rename_i f fs cs
    split at hr
    · rename_i fs' hfs
      split at hr
      · rename_i cs' hcs
        cases hr
        obtain ⟨vfs, vcs, rfl, h1, h2, h3, h4⟩ := hv.fn_inv
        have g1 := (mapO_ok (c := c) (c' := c') (p := fun a => a.okC = true) (fun a a' v hv hr => renC_ok h hv hr) hfs ⟨h1, h3⟩).1
        have g2 := (mapO_ok (c := c) (c' := c') (p := fun a => a.okC = true) (fun a a' v hv hr => renC_ok h hv hr) hcs ⟨h2, h4⟩).1
        exact ⟨.fn f fs' cs' vfs vcs g1.1 g2.1 g1.2 g2.2, rfl⟩
      · cases hr
    · cases hr
  · exact renC_ok h hv hr

theorem renA_ok (h : Ren c c' m) {a a' : AV} {v : Value} (hv : V c a v) (hr : renA m a = some a') : V c' a' v ∧ a'.cells.all AV.okC = true := by
  unfold renA at hr
  split at hr
  · rename_i cs
    split at hr
    · rename_i l hl
      cases hr
      obtain ⟨vs, rfl, h1, h2, h3⟩ := hv.agg_inv
      obtain ⟨g1, g2⟩ := mapO_ok (c := c) (c' := c') (p := fun a => a.okC = true) (fun a a' v hv hr => renD_ok h hv hr) hl ⟨h1, h3⟩
      exact ⟨.agg l vs g1.1 g2 g1.2, List.all_eq_true.2 g2⟩
    · cases hr
  · obtain ⟨g1, g2⟩ := renD_ok h hv hr
    refine ⟨g1, ?_⟩
    have : a'.cells = [a'] := by cases a' <;> first | rfl | cases g2
    rw [this]; simp [g2]

theorem renT_ok (h : Ren c c' m) {a a' : AV} {v : Value} (hv : V c a v) (hr : renT m a = some a') : V c' a' v := by
  unfold renT at hr
  split at hr
  · rename_i cs
    split at hr
    · rename_i l hl
      cases hr
      obtain ⟨vs, rfl, h1, h3⟩ := hv.tup_inv
      obtain ⟨g1, _⟩ := mapO_ok (c := c) (c' := c') (p := fun a => a.cells.all AV.okC = true) (fun a a' v hv hr => renA_ok h hv hr) hl ⟨h1, h3⟩
      exact .tup l vs g1.1 g1.2
    · cases hr
  · exact (renA_ok h hv hr).1
end

end Go.Ab
