/- Operations that change memory. -/
import Derived.Test.YtacpbgkljdgmlaaAbRen
set_option linter.unusedVariables false
set_option linter.unusedSimpArgs false
namespace Go.Ab
open Go

section
variable {P : Program} {w0 : World} {G X Lo : Nat → Prop} {c : Cx}

/-- The same blocks, but that some are written no more. -/
structure Frz (c c' : Cx) (l : List Nat) : Prop where
  w : c'.w = c.w
  R : c'.R = c.R
  look : ∀ b, look c'.S b = (look c.S b).map fun x => if b ∈ l then { x with fz := true } else x

theorem look_freeze (bs : List (Nat × Blk)) : ∀ (l : List Nat) (b : Nat), look (freeze bs l ++ bs) b = (look bs b).map fun x => if b ∈ l then { x with fz := true } else x
  | [], b => by simp [freeze]
  | d :: r, b => by
    have ih := look_freeze bs r b
    simp only [freeze]
    split
    · rename_i x hx
      rw [List.cons_append, look_cons]
      by_cases e : d = b
      · subst e
        simp [hx]
      · rw [if_neg e, ih]
        congr 1
        funext y
        have : b ≠ d := fun h => e h.symm
        simp [this]
    · rename_i hx
      rw [ih]
      cases hb : look bs b with
      | none => rfl
      | some y =>
        have : b ≠ d := by rintro rfl; rw [hx] at hb; cases hb
        simp [this]

theorem freeze_wr (h : WR w0 G X Lo c) : ∀ (l : List Nat), ∃ c', c'.S = freeze c.S l ++ c.S ∧ WR w0 G X Lo c' ∧ Le c c' ∧ c'.w = c.w ∧ c'.R = c.R
  | [] => ⟨c, rfl, h, Le.refl _, rfl, rfl⟩
  | d :: r => by
    obtain ⟨c1, h1, h2, h3, h4, h5⟩ := freeze_wr h r
    simp only [freeze]
    split
    · rename_i x hx
      have hl : look c1.S d = some (if d ∈ r then { x with fz := true } else x) := by rw [h1, look_freeze, hx]; rfl
      obtain ⟨g1, g2⟩ := h2.setA d _ { x with fz := true } hl (by split <;> rfl) (by split <;> rfl) (by split <;> rfl) (by split <;> exact .inl rfl) (.inr rfl)
      exact ⟨_, by show _ :: c1.S = _; rw [h1]; rfl, g1, h3.trans g2, h4, h5⟩
    · exact ⟨c1, h1, h2, h3, h4, h5⟩

theorem nextV_freeze (bs : List (Nat × Blk)) (l : List Nat) (b : Nat) : nextV (freeze bs l ++ bs) b = nextV bs b := by
  unfold nextV
  rw [look_freeze]
  cases look bs b with
  | none => rfl
  | some x => simp only [Option.map_some]; split <;> rfl

/-- A frozen row as a value. -/
theorem pureM_ok (h : WR w0 G X Lo c) {l : List Nat} {c' : Cx} (hS : c'.S = freeze c.S l ++ c.S) (h' : WR w0 G X Lo c') (hL : Le c c') (hw : c'.w = c.w) (hR : c'.R = c.R)
    (b v : Nat) (n : Nm) (hm : (if b ∈ l then pureM c.S b v else none) = some n) : NmOk c c' b v n := by
  split at hm
  · rename_i hbl
    unfold pureM at hm
    split at hm
    · rename_i x hx
      split at hm
      · rename_i hk
        cases hm
        obtain ⟨h1, h2, h3⟩ := ldBlk_some hx
        obtain ⟨cells, t, lo, hi, g1, g2, g3, g4⟩ := (h.blk b x h1 h3).here
        obtain ⟨g5, g6⟩ := g4 hk
        have hcont : PContent c' (x.es.flatMap AV.cells) cells := g6.mono hL
        refine ⟨x, h1, h2, hk, rfl, g5, ?_, ?_, cells, t, (lo, hi), by rw [hw]; exact g1, hcont⟩
        · rw [hw]; exact (h.blk b x h1 h3).lt
        · intro hf
          rcases (h'.hF _).1 hf with hx' | ⟨b', y, k1, k2, k3, k4⟩
          · exact (h.own b x h1 h3).2 hx'
          · have hb : look c'.S b = some { x with fz := true } := by rw [hS, look_freeze, h1]; simp [hbl]
            have : b' = b := h'.inj b' b y _ k1 k2 hb h3 (by rw [k4, hR])
            subst this
            have := Option.some.inj (k1.symm.trans hb)
            subst this
            cases k3
      · cases hm
    · cases hm
  · cases hm

theorem renC_pure_rows {bs : List (Nat × Blk)} {l : List Nat} {a a' : AV} (hl : ∀ b ∈ rowsC a, b ∈ l) (hr : renC (pureM bs) a = some a') :
    renC (fun b v => if b ∈ l then pureM bs b v else none) a = some a' := by
  cases a with
  | sref b v off len =>
    simp only [renC] at hr ⊢
    rw [if_pos (hl b (by simp [rowsC]))]
    exact hr
  | ptr b v i off =>
    simp only [renC] at hr
    unfold pureM at hr
    split at hr
    · rename_i h
      (repeat' split at h) <;> first | cases h | skip
    · cases hr
  | fn f fs cs =>
    cases fs with
    | cons => simp [renC] at hr
    | nil => cases cs with
      | cons => simp [renC] at hr
      | nil => exact hr
  | _ => exact hr

theorem mapO_congr {f g : AV → Option AV} : ∀ {l r : List AV}, mapO f l = some r → (∀ a ∈ l, ∀ b, f a = some b → g a = some b) → mapO g l = some r
  | [], r, h, _ => h
  | a :: l, r, h, hfg => by
    simp only [mapO] at h ⊢
    split at h
    · rename_i b hb
      rw [hfg a (by simp) b hb]
      split at h
      · rename_i bs hbs
        rw [mapO_congr hbs (fun x hx => hfg x (by simp [hx]))]
        exact h
      · cases h
    · cases h

/-- Two states, the second with these rows written no more. -/
structure FrzTo (w0 : World) (G X Lo : Nat → Prop) (c c' : Cx) (l : List Nat) : Prop where
  S : c'.S = freeze c.S l ++ c.S
  wr : WR w0 G X Lo c'
  le : Le c c'
  w : c'.w = c.w
  R : c'.R = c.R

theorem freezeTo (h : WR w0 G X Lo c) (l : List Nat) : ∃ c', FrzTo w0 G X Lo c c' l := by
  obtain ⟨c', h1, h2, h3, h4, h5⟩ := freeze_wr h l
  exact ⟨c', h1, h2, h3, h4, h5⟩

theorem pureC_ok (h : WR w0 G X Lo c) {l : List Nat} {c' : Cx} (f : FrzTo w0 G X Lo c c' l) {a a' : AV} {v : Value} (hl : ∀ b ∈ rowsC a, b ∈ l) (hv : V c a v) (hr : pureC c.S a = some a') :
    PV c'.w c'.F a' v ∧ a'.okC = true := by
  have hren : Ren c c' (fun b v => if b ∈ l then pureM c.S b v else none) :=
    ⟨f.le.size, f.le.hF, f.le.hw, fun b v n hn => pureM_ok h f.S f.wr f.le f.w f.R b v n hn⟩
  have hr' : renC (pureM c.S) a = some a' := by cases a <;> first | exact hr | (simp [pureC] at hr)
  obtain ⟨g1, g2⟩ := renC_ok hren hv (renC_pure_rows hl hr')
  refine ⟨?_, g2⟩
  cases g1 with
  | pure h => exact h
  | agg => cases g2
  | tup => cases g2
  | sref b w off len =>
    exfalso
    cases a with
    | sref b' v' o n =>
      simp only [renC] at hr'
      unfold pureM at hr'
      split at hr'
      · rename_i k1 k2 h1
        (repeat' split at h1) <;> cases h1
      · split at hr' <;> cases hr'
      · cases hr'
    | fn f fs cs => cases fs <;> cases cs <;> simp [renC] at hr'
    | ptr => simp [pureC] at hr
    | eptr => simp [pureC] at hr
    | iface t v => simp only [renC] at hr'; split at hr' <;> cases hr'
    | _ => simp [renC] at hr'
  | ptr b w i off =>
    exfalso
    cases a with
    | sref b' v' o n =>
      simp only [renC] at hr'
      split at hr'
      · cases hr'
      · split at hr' <;> cases hr'
      · cases hr'
    | fn f fs cs => cases fs <;> cases cs <;> simp [renC] at hr'
    | ptr => simp [pureC] at hr
    | eptr => simp [pureC] at hr
    | iface t v => simp only [renC] at hr'; split at hr' <;> cases hr'
    | _ => simp [renC] at hr'
  | eptr e off =>
    exfalso
    cases a with
    | sref b' v' o n =>
      simp only [renC] at hr'
      split at hr'
      · cases hr'
      · split at hr' <;> cases hr'
      · cases hr'
    | fn f fs cs => cases fs <;> cases cs <;> simp [renC] at hr'
    | ptr => simp [pureC] at hr
    | eptr => simp [pureC] at hr
    | iface t v => simp only [renC] at hr'; split at hr' <;> cases hr'
    | _ => simp [renC] at hr'
  | fn g fs cs vfs vcs h1 h2 =>
    cases a with
    | sref b' v' o n =>
      simp only [renC] at hr'
      split at hr'
      · cases hr'
      · split at hr' <;> cases hr'
      · cases hr'
    | fn f fs' cs' =>
      cases fs' with
      | cons => simp [renC] at hr'
      | nil => cases cs' with
        | cons => simp [renC] at hr'
        | nil =>
          simp only [renC] at hr'
          cases hr'
          have e1 : vfs = [] := List.eq_nil_of_length_eq_zero (by simpa using h1.symm)
          have e2 : vcs = [] := List.eq_nil_of_length_eq_zero (by simpa using h2.symm)
          subst e1; subst e2
          exact .fn _
    | ptr => simp [pureC] at hr
    | eptr => simp [pureC] at hr
    | iface t v => simp only [renC] at hr'; split at hr' <;> cases hr'
    | _ => simp [renC] at hr'

/-- Values, one for each, that are not in the store. -/
def PL (c : Cx) (as : List AV) (vs : List Value) : Prop := as.length = vs.length ∧ ∀ (i : Nat) a v, as[i]? = some a → vs[i]? = some v → PV c.w c.F a v

theorem mapO_pure (h : WR w0 G X Lo c) {l : List Nat} {c' : Cx} (f : FrzTo w0 G X Lo c c' l) : ∀ {as rs : List AV} {vs : List Value}, (∀ b ∈ as.flatMap rowsC, b ∈ l) → VL c as vs → mapO (pureC c.S) as = some rs →
    PL c' rs vs ∧ ∀ a ∈ rs, a.okC = true
  | [], rs, vs, _, hv, hr => by
    simp [mapO] at hr; subst hr
    have : vs = [] := List.eq_nil_of_length_eq_zero (by simpa using hv.1.symm)
    subst this
    exact ⟨⟨rfl, fun _ _ _ h => by simp at h⟩, fun _ h => by simp at h⟩
  | a :: as, rs, vs, hl, hv, hr => by
    obtain ⟨v, r, rfl, h1, h2⟩ := VL.of_cons hv
    simp only [mapO] at hr
    split at hr
    · rename_i b hb
      split at hr
      · rename_i bs hbs
        cases hr
        obtain ⟨i1, i2⟩ := mapO_pure h f (fun x hx => hl x (by simp [List.flatMap_cons]; exact .inr (by simpa using hx))) h2 hbs
        obtain ⟨j1, j2⟩ := pureC_ok h f (fun x hx => hl x (by simp [List.flatMap_cons]; exact .inl hx)) h1 hb
        refine ⟨⟨by simp [i1.1], fun i x u g1 g2 => ?_⟩, fun x hx => ?_⟩
        · cases i with
          | zero => simp at g1 g2; subst g1; subst g2; exact j1
          | succ i => exact i1.2 i x u (by simpa using g1) (by simpa using g2)
        · rcases List.mem_cons.1 hx with rfl | hx
          · exact j2
          · exact i2 x hx
      · cases hr
    · cases hr

/-- The cells of what is handed on as a value. -/
theorem pureA_ok (h : WR w0 G X Lo c) {l : List Nat} {c' : Cx} (f : FrzTo w0 G X Lo c c' l) {a a' : AV} {v : Value} (hl : ∀ b ∈ rowsA a, b ∈ l) (hv : V c a v) (hr : pureA c.S a = some a') :
    PV c'.w c'.F a' v ∧ a'.cells.all AV.okC = true := by
  unfold pureA at hr
  split at hr
  · rename_i cs
    split at hr
    · rename_i r hr'
      cases hr
      obtain ⟨vs, rfl, h1, h2, h3⟩ := hv.agg_inv
      obtain ⟨g1, g2⟩ := mapO_pure h f (by simpa [rowsA] using hl) ⟨h1, h3⟩ hr'
      exact ⟨.agg r vs g1.1 g2 g1.2, List.all_eq_true.2 g2⟩
    · cases hr
  · rename_i hna
    have hrows : rowsA a = rowsC a := by
      cases a <;> first | rfl | exact absurd rfl (hna _)
    rw [hrows] at hl
    obtain ⟨g1, g2⟩ := pureC_ok h f hl hv hr
    refine ⟨g1, ?_⟩
    have : a'.cells = [a'] := by cases a' <;> first | rfl | cases g2
    rw [this]; simp [g2]


/-- An operation that comes to 'v' and writes these blocks. -/
def MOk (P : Program) (w0 : World) (G X Lo : Nat → Prop) (c : Cx) (s : Sem Value) (v : AV) (ds : List (Nat × Blk)) : Prop :=
  ∃ u c1, s.run P c.w = .ok u c1.w ∧ c1.S = ds ++ c.S ∧ WR w0 G X Lo c1 ∧ Le c c1 ∧ V c1 v u

theorem box_push (h : WR w0 G X Lo c) {d : Option Tmp} {as : List AV} {vs : List Value} (hvs : VL c as vs) {v : AV} {ds : List (Nat × Blk)} (hr : newBox c.S d as = some (.val v ds)) (t : TypeId) :
    ∃ c1, c1.w = { c.w with heap := c.w.heap.push (.cells vs.toArray t) } ∧ c1.S = ds ++ c.S ∧ WR w0 G X Lo c1 ∧ Le c c1 ∧ V c1 v (.pointer (some ⟨c.w.heap.size, 0, none⟩)) := by
  unfold newBox at hr
  split at hr
  · rename_i b hb
    split at hr
    · rename_i hok
      cases hr
      have hc : Content c as vs.toArray := fun k a hk => by
        have hlt := (List.getElem?_eq_some_iff.1 hk).1
        have hlv : k < vs.length := by have := hvs.1; omega
        have hv : vs[k]? = some vs[k] := List.getElem?_eq_getElem hlv
        exact ⟨List.all_eq_true.1 hok a (List.mem_of_getElem? hk), vs[k], by simp [hlv], hvs.2 k a _ hk hv⟩
      obtain ⟨g1, g2⟩ := h.push c.w rfl rfl rfl b { v := nextV c.S b, k := .box, fz := false, sz := 0, es := as } rfl (by simp) rfl vs.toArray t 0 0 (.inl rfl) (fun _ => hc) (fun h => by cases h)
      refine ⟨_, rfl, rfl, g1, g2, ?_⟩
      refine .ptr _ _ _ _ _ rfl { v := nextV c.S b, k := .box, fz := false, sz := 0, es := as } (by simp [look_cons]) (Nat.le_refl _) (fun _ => ⟨fun _ _ => by simp [updR], fun h => by cases h⟩)
    · cases hr
  · cases hr

theorem box_ok (h : WR w0 G X Lo c) {d : Option Tmp} {a : AV} {val : Value} (hv : V c a val) {v : AV} {ds : List (Nat × Blk)} (hr : newBox c.S d a.cells = some (.val v ds)) (t : TypeId) :
    MOk P w0 G X Lo c (Instr.box t val) v ds := by
  have hok : a.cells.all AV.okC = true := by
    unfold newBox at hr
    split at hr
    · split at hr
      · assumption
      · cases hr
    · cases hr
  obtain ⟨vs, e1, e2, e3, e4⟩ := hv.cells hok
  obtain ⟨c1, g1, g2, g3, g4, g5⟩ := box_push h ⟨e2, e4⟩ hr t
  exact ⟨_, c1, by rw [g1]; simp [Instr.box, newVar, Go.newRow, e1], g2, g3, g4, g5⟩

theorem alloc_ok (h : WR w0 G X Lo c) {d : Option Tmp} {t : TypeId} {z : AV} (hz : zeroOf P t = some z) {v : AV} {ds : List (Nat × Blk)} (hr : newBox c.S d z.cells = some (.val v ds)) :
    MOk P w0 G X Lo c (Instr.alloc t true (.tuple #[])) v ds := by
  obtain ⟨zv, g1, g2, g3, _⟩ := zeroOf_ok (c := c) c.w hz
  obtain ⟨vs, e1, e2, e3, e4⟩ := (V.pure g2).cells g3
  obtain ⟨c1, k1, k2, k3, k4, k5⟩ := box_push h ⟨e2, e4⟩ hr t
  exact ⟨_, c1, by rw [k1]; simp [Instr.alloc, g1, newVar, Go.newRow, e1], k2, k3, k4, k5⟩

/-- A new row, behind others that are written no more. -/
theorem row_push {l : List Nat} {cF : Cx} (f : FrzTo w0 G X Lo c cF l) (w1 : World) (hw1 : w1.heap = c.w.heap) (hos : w1.os = c.w.os) (hou : w1.output = c.w.output)
    {d : Option Tmp} {sz : Nat} {es : List AV} {v : AV} {ds : List (Nat × Blk)} (hr : newRow c.S d sz es (freeze c.S l) = some (.val v ds))
    (cells : Array Value) (t : TypeId) (lo hi : Nat) (hfr : lo = hi ∨ cells.size ≤ lo) (hel : ∀ e ∈ es, e.cells.length = sz ∧ ∀ a ∈ e.cells, a.okC = true)
    (hc : PContent cF (es.flatMap AV.cells) cells) (cap : Nat) (hcap : es.length ≤ cap) (hsz : cap * sz ≤ cells.size) :
    ∃ c1, c1.w = { w1 with heap := w1.heap.push (.cells cells t (lo, hi)) } ∧ c1.S = ds ++ c.S ∧ WR w0 G X Lo c1 ∧ Le c c1 ∧ V c1 v (.slice (some ⟨c.w.heap.size, 0, none⟩) es.length cap) := by
  unfold newRow at hr
  split at hr
  · rename_i b hb
    cases hr
    obtain ⟨g1, g2⟩ := f.wr.push w1 (by rw [hw1, f.w]) (by rw [hos, f.w]) (by rw [hou, f.w]) b { v := nextV c.S b, k := .row, fz := false, sz := sz, es := es }
      (by show nextV c.S b = nextV cF.S b; rw [f.S, nextV_freeze]) (by simp) rfl cells t lo hi hfr (fun h => by cases h) (fun _ => ⟨hel, hc⟩)
    refine ⟨_, rfl, ?_, g1, f.le.trans g2, ?_⟩
    · show _ :: cF.S = _; rw [f.S]; rfl
    · refine .sref _ _ _ _ _ rfl { v := nextV c.S b, k := .row, fz := false, sz := sz, es := es } (by simp [look_cons]) (Nat.le_refl _) (fun _ _ => ⟨cap, cells, t, (lo, hi), ?_, by simpa using hcap, hcap, ?_, by simpa using hsz⟩)
      · simp [updR, f.w]
      · show (w1.heap.push _)[updR _ _ _ b]? = _
        simp [updR, f.w, hw1]
  · cases hr

theorem setRow_heap_eq (w : World) (g : Nat) (old cs : Array Value) (t : TypeId) (fr : Nat × Nat) (hg : w.heap[g]? = some (.cells old t fr)) : (w.setRow g cs).heap = w.heap.setIfInBounds g (.cells cs t fr) := by
  have hlt : g < w.heap.size := (Array.getElem?_eq_some_iff.1 hg).1
  apply Array.ext_getElem?
  intro k
  by_cases e : k = g
  · subst e
    rw [setRow_heap w k old cs t fr hg, Array.getElem?_setIfInBounds_self_of_lt hlt]
  · rw [setRow_other w g k cs e, Array.getElem?_setIfInBounds_ne (fun h => e h.symm)]

theorem fr_ok {lo hi n : Nat} (h : lo = hi ∨ n ≤ lo) : ∀ k, k < n → ¬ (lo ≤ k ∧ k < hi) := by
  intro k hk hh
  omega

theorem run_storeCells (g o : Nat) (t : TypeId) (lo hi : Nat) : ∀ (vs : List Value) (i : Nat) (cur : Array Value) (w : World), w.heap[g]? = some (.cells cur t (lo, hi)) →
    (∀ k, k < cur.size → ¬ (lo ≤ k ∧ k < hi)) → o + i + vs.length ≤ cur.size → (∀ v ∈ vs, v.oneCell' = true) →
    (storeCells ⟨g, o, none⟩ vs i).run P w = .ok () (w.setRow g (cur.toList.take (o + i) ++ vs ++ cur.toList.drop (o + i + vs.length)).toArray)
  | [], i, cur, w, hg, _, _, _ => by
    simp only [storeCells, List.append_nil, List.length_nil, Nat.add_zero, List.take_append_drop, Array.toArray_toList]
    rw [setRow_self w g cur t (lo, hi) hg]
    rfl
  | v :: rest, i, cur, w, hg, hfz, hl, h1 => by
    have hi : o + i < cur.size := by simp at hl; omega
    have hadd : (⟨g, o, none⟩ : Addr).add i = ⟨g, o + i, none⟩ := by unfold Addr.add; split <;> simp_all
    have hcell : w.cell? ⟨g, o + i, none⟩ = some cur[o + i] := by simp [World.cell?, hg, hi]
    have hfro : w.frozen? ⟨g, o + i, none⟩ = false := by
      have := hfz (o + i) hi
      simp only [World.frozen?, hg, Bool.and_eq_false_iff, decide_eq_false_iff_not]
      omega
    have hst : (store ((⟨g, o, none⟩ : Addr).add i) v).run P w = .ok () (w.setRow g (cur.setIfInBounds (o + i) v)) := by
      rw [hadd, run_store P w _ v _ (h1 v (by simp)), hcell]
      simp [hfro, setCell_eq_setRow w g (o + i) cur t (lo, _) v hg]
    have ih := run_storeCells g o t lo _ rest (i + 1) (cur.setIfInBounds (o + i) v) (w.setRow g (cur.setIfInBounds (o + i) v)) (setRow_heap w g cur _ t _ hg) (by simpa using hfz) (by simp at hl ⊢; omega) (fun x hx => h1 x (by simp [hx]))
    simp only [storeCells, Sem.run_bind, hst, Result.andThen_ok, ih, setRow_setRow]
    congr 3
    have e := list_seg_step cur.toList (o + i) v rest (by simp at hl ⊢; omega)
    simpa [Array.toList_setIfInBounds, Nat.add_assoc] using e

end
end Go.Ab
