/- Calls: what comes back. -/
import Derived.Test.YtacpbgkljdgmlaaAbCall
set_option linter.unusedVariables false
set_option linter.unusedSimpArgs false
namespace Go.Ab
open Go

theorem backOut_look {bs : List (Nat × Blk)} {m : Nat → Nat → Option Nm} : ∀ {ks : List Nat} {xs : List Blk} {o : List (Nat × Blk)}, backOut bs m ks xs = some o → ks.Nodup →
    xs.length = ks.length ∧ (∀ b, b ∉ ks → look o b = none) ∧ ∀ (i k : Nat), ks[i]? = some k → ∃ x y z, xs[i]? = some x ∧ look bs k = some y ∧ renBlk m x = some z ∧ look o k = some { z with v := y.v }
  | [], [], o, h, _ => by simp [backOut] at h; subst h; simp [look]
  | [], _ :: _, o, h, _ => by simp [backOut] at h
  | _ :: _, [], o, h, _ => by simp [backOut] at h
  | k :: ks, x :: xs, o, h, hn => by
    simp only [backOut] at h
    split at h
    · rename_i y hy
      split at h
      · rename_i z hz
        split at h
        · rename_i r hr
          cases h
          rw [List.nodup_cons] at hn
          obtain ⟨h1, h2, h3⟩ := backOut_look hr hn.2
          refine ⟨by simp [h1], fun b hb => ?_, fun i k' hk => ?_⟩
          · simp at hb
            rw [look_cons, if_neg (fun e => hb.1 e.symm)]
            exact h2 b hb.2
          · cases i with
            | zero => simp at hk; subst hk; exact ⟨x, y, z, rfl, hy, hz, by rw [look_cons, if_pos rfl]⟩
            | succ i =>
              have hk' : ks[i]? = some k' := by simpa using hk
              obtain ⟨x', y', z', g1, g2, g3, g4⟩ := h3 i k' hk'
              refine ⟨x', y', z', by simpa using g1, g2, g3, ?_⟩
              rw [look_cons, if_neg ?_]; exact g4
              rintro rfl
              exact hn.1 (List.mem_of_getElem? hk')
        · cases h
      · cases h
    · cases h

theorem backNew_look {bs : List (Nat × Blk)} {m : Nat → Nat → Option Nm} {d : Nat} : ∀ {j : Nat} {xs : List Blk} {n : List (Nat × Blk)}, backNew bs m d j xs = some n →
    (∀ b x, look n b = some x → ∃ i y z, b = 16 * d + j + i ∧ xs[i]? = some y ∧ renBlk m y = some z ∧ x = { z with v := nextV bs b }) ∧
    ∀ (i : Nat) y, xs[i]? = some y → ∃ z, renBlk m y = some z ∧ look n (16 * d + j + i) = some { z with v := nextV bs (16 * d + j + i) }
  | j, [], n, h => by simp [backNew] at h; subst h; simp [look]
  | j, x :: xs, n, h => by
    simp only [backNew] at h
    split at h
    · rename_i z hz
      split at h
      · rename_i r hr
        cases h
        obtain ⟨h1, h2⟩ := backNew_look hr
        refine ⟨fun b y hb => ?_, fun i y hi => ?_⟩
        · rw [look_cons] at hb
          split at hb
          · rename_i e; cases hb; exact ⟨0, x, z, by omega, rfl, hz, by rw [e]⟩
          · obtain ⟨i, y', z', g1, g2, g3, g4⟩ := h1 b y hb
            exact ⟨i + 1, y', z', by omega, by simpa using g2, g3, g4⟩
        · cases i with
          | zero => simp at hi; subst hi; exact ⟨z, hz, by rw [look_cons, if_pos (by omega)]; rfl⟩
          | succ i =>
            obtain ⟨z', g1, g2⟩ := h2 i y (by simpa using hi)
            refine ⟨z', g1, ?_⟩
            rw [look_cons, if_neg (by omega)]
            rw [show 16 * d + j + (i + 1) = 16 * d + (j + 1) + i by omega]; exact g2
      · cases h
    · cases h

section
variable {P : Program} {w0 : World} {G X Lo : Nat → Prop} {c : Cx}

/-- Nothing that lies anywhere. -/
theorem noSlcC_PV {a : AV} {v : Value} (hs : a.noSlcC = true) {w w' : World} {F F' : Nat → Prop} (h : PV w F a v) : PV w' F' a v := by
  cases h with
  | undef => cases hs
  | skp => cases hs
  | bool => exact .bool _
  | int => exact .int _ _
  | str => exact .str _
  | agg => cases hs
  | tup => cases hs
  | slc => cases hs
  | pnil => exact .pnil
  | fnil => exact .fnil
  | inil => exact .inil
  | fn => cases hs
  | iface t a v hs' h => exact .iface t a v hs' (simple_V hs' h)

theorem noSlcC_V {c c' : Cx} {a : AV} {v : Value} (hs : a.noSlcC = true) (h : V c a v) : V c' a v := by
  cases h with
  | pure h => exact .pure (noSlcC_PV hs h)
  | agg => cases hs
  | tup => cases hs
  | sref => cases hs
  | ptr => cases hs
  | eptr => cases hs
  | fn => cases hs

theorem noSlcA_V {c c' : Cx} {a : AV} {v : Value} (hs : a.noSlcA = true) (h : V c a v) : V c' a v := by
  cases a with
  | agg cs =>
    obtain ⟨vs, rfl, h1, h2, h3⟩ := h.agg_inv
    exact .agg cs vs h1 h2 (fun i a u g1 g2 => noSlcC_V (List.all_eq_true.1 hs a (List.mem_of_getElem? g1)) (h3 i a u g1 g2))
  | _ => exact noSlcC_V hs h

theorem noSlc_V {c c' : Cx} {a : AV} {v : Value} (hs : a.noSlc = true) (h : V c a v) : V c' a v := by
  cases a with
  | tup cs =>
    obtain ⟨vs, rfl, h1, h3⟩ := h.tup_inv
    exact .tup cs vs h1 (fun i a u g1 g2 => noSlcA_V (List.all_eq_true.1 hs a (List.mem_of_getElem? g1)) (h3 i a u g1 g2))
  | _ => exact noSlcA_V hs h

theorem renD_noSlc {m : Nat → Nat → Option Nm} {a a' : AV} (hs : a.noSlcC = true) (h : renD m a = some a') : a' = a := by
  cases a <;> first | (cases hs; done) | skip
  · simpa [renD, renC, eq_comm] using h
  · simpa [renD, renC, eq_comm] using h
  · simpa [renD, renC, eq_comm] using h
  · simpa [renD, renC, eq_comm] using h
  · simpa [renD, renC, eq_comm] using h
  · rename_i t v
    simp only [renD, renC] at h
    split at h
    · cases h; rfl
    · cases h
  · simpa [renD, renC, eq_comm] using h

theorem mapO_id {f : AV → Option AV} : ∀ {l r : List AV}, mapO f l = some r → (∀ a ∈ l, ∀ b, f a = some b → b = a) → r = l
  | [], r, h, _ => by simp [mapO] at h; exact h
  | a :: l, r, h, hf => by
    simp only [mapO] at h
    split at h
    · rename_i b hb
      split at h
      · rename_i bs hbs
        cases h
        rw [hf a (by simp) b hb, mapO_id hbs (fun x hx => hf x (by simp [hx]))]
      · cases h
    · cases h

theorem renA_noSlc {m : Nat → Nat → Option Nm} {a a' : AV} (hs : a.noSlcA = true) (h : renA m a = some a') : a' = a := by
  unfold renA at h
  split at h
  · rename_i cs
    split at h
    · rename_i l hl
      cases h
      rw [mapO_id hl (fun x hx b hb => renD_noSlc (List.all_eq_true.1 hs x hx) hb)]
    · cases h
  · rename_i hna
    refine renD_noSlc ?_ h
    cases a <;> first | exact hs | exact absurd rfl (hna _)

theorem renT_noSlc {m : Nat → Nat → Option Nm} {a a' : AV} (hs : a.noSlc = true) (h : renT m a = some a') : a' = a := by
  unfold renT at h
  split at h
  · rename_i cs
    split at h
    · rename_i l hl
      cases h
      rw [mapO_id hl (fun x hx b hb => renA_noSlc (List.all_eq_true.1 hs x hx) hb)]
    · cases h
  · rename_i hna
    refine renA_noSlc ?_ h
    cases a <;> first | exact hs | exact absurd rfl (hna _)

theorem noSlcA_cells {a : AV} (hs : a.noSlcA = true) : ∀ x ∈ a.cells, x.noSlcC = true := by
  cases a with
  | agg cs => intro x hx; exact List.all_eq_true.1 hs x hx
  | _ => intro x hx; simp [AV.cells] at hx; subst hx; exact hs

theorem noSlcA_C {a : AV} (hs : a.noSlcA = true) (ho : a.okC = true) : a.noSlcC = true := by
  cases a <;> first | exact hs | cases ho

/-- What a call left, for the caller. -/
theorem back_ok (h : WR w0 G X Lo c) {cF cc c' : Cx} {l ks : List Nat} {out : List Blk} (E : Ent c w0 G X Lo cF cc l ks out) {r : Ret} {v : Value}
    (hS' : c'.S = outerSt r.out ++ withKeys newBase 0 r.new) (hW' : WR c.w (Gk c ks) (Xk X cF ks) (Lk c ks) c') (L' : Le cc c') (hv : V c' r.res v)
    {thaw : Bool} {d : Option Tmp} {res : Res} (hr : callOut c.S thaw d ks l r = some res) :
    ∃ c1 a ds, res = (if r.pan = true then Res.pan a ds else Res.val a ds) ∧ c1.w = c'.w ∧ c1.S = ds ++ c.S ∧ WR w0 G X Lo c1 ∧ Le c c1 ∧ V c1 a v := by
  unfold callOut at hr
  dsimp only at hr
  split at hr
  case isFalse => cases hr
  rename_i hchk
  obtain ⟨hol, hov, hnv⟩ := hchk
  generalize hfull : ((thaw || r.new.any fun x => decide (x.k = .box)) && d.isSome) = full at hr
  generalize hD : d.getD 0 = D at hr
  generalize hm : backM c.S ks r full D = m at hr
  generalize hcond : (r.res.noSlc && allNoSlc r.out && allNoSlc r.new) = cond at hr
  split at hr
  · cases hr
  rename_i res' hres
  split at hr
  · cases hr
  rename_i o ho
  split at hr
  · cases hr
  rename_i n hn
  obtain ⟨b1, b2, b3⟩ := backOut_look ho E.nodup
  have hov' : ∀ x ∈ r.out, x.v = 0 := fun x hx => by simpa using List.all_eq_true.1 hov x hx
  have hnv' : ∀ x ∈ r.new, x.v = 0 := fun x hx => by simpa using List.all_eq_true.1 hnv x hx
  have hnew : ∀ b x, look n b = some x → full = true ∧ ∃ i y z, b = 16 * D + i ∧ r.new[i]? = some y ∧ renBlk m y = some z ∧ x = { z with v := nextV c.S b } := by
    intro b x hb
    split at hn
    · rename_i hf
      split at hn
      · obtain ⟨g, _⟩ := backNew_look hn
        exact ⟨hf, by simpa using g b x hb⟩
      · cases hn
    · cases hn; simp [look] at hb
  have hnew2 : full = true → ∀ (i : Nat) y, r.new[i]? = some y → ∃ z, renBlk m y = some z ∧ look n (16 * D + i) = some { z with v := nextV c.S (16 * D + i) } := by
    intro hf i y hy
    rw [if_pos hf] at hn
    split at hn
    · obtain ⟨_, g⟩ := backNew_look hn
      simpa using g i y hy
    · cases hn
  -- the callee's blocks
  have hcout : ∀ (i : Nat) x, r.out[i]? = some x → look c'.S (outBase + i) = some x := by
    intro i x hx
    rw [hS', look_app]
    have : look (outerSt r.out) (outBase + i) = some x := by
      show look (withKeys outBase 0 r.out) _ = _
      rw [look_withKeys, if_pos (by omega), show outBase + i - (outBase + 0) = i by omega]; exact hx
    rw [this]
  have hcnew : ∀ (i : Nat) x, r.new[i]? = some x → look c'.S (newBase + i) = some x := by
    intro i x hx
    rw [hS', look_app]
    have : look (outerSt r.out) (newBase + i) = none := by
      show look (withKeys outBase 0 r.out) _ = _
      rw [look_withKeys, if_pos (by unfold newBase outBase; omega)]
      exact List.getElem?_eq_none (by unfold newBase outBase; omega)
    rw [this, look_withKeys, if_pos (by omega), show newBase + i - (newBase + 0) = i by omega]; exact hx
  have hO : ∀ (i k : Nat), ks[i]? = some k → ∃ x x' z, look c.S k = some x ∧ r.out[i]? = some x' ∧ x'.v = 0 ∧ look c'.S (outBase + i) = some x' ∧ renBlk m x' = some z ∧ look o k = some { z with v := x.v } ∧
      (x'.k ≠ .dead → x.k = x'.k ∧ c'.R (outBase + i) = c.R k ∧ x'.sz = x.sz ∧ (x.k = .row → x'.es.length = x.es.length) ∧ (x.fz = true → x'.fz = true) ∧
        ∀ cells t fr, c.w.heap[c.R k]? = some (.cells cells t fr) → ∃ cells' t' fr', c'.w.heap[c.R k]? = some (.cells cells' t' fr') ∧ cells'.size = cells.size) := by
    intro i k hk
    obtain ⟨x', x, z, g1, g2, g3, g4⟩ := b3 i k hk
    obtain ⟨x0, y0, e1, e2, e3, e4, e5, e6, e7⟩ := E.blk i k hk
    have : x0 = x := Option.some.inj (e1.symm.trans g2)
    subst this
    have hlc : look cc.S (outBase + i) = some y0 := by
      rw [E.S]
      show look (withKeys outBase 0 out) _ = _
      rw [look_withKeys, if_pos (by omega), show outBase + i - (outBase + 0) = i by omega]; exact e2
    obtain ⟨x2, f1, f2, f3⟩ := L'.hS _ _ hlc
    have h2 := hcout i x' g1
    have : x2 = x' := Option.some.inj (f1.symm.trans h2)
    subst this
    have hx0 := hov' x2 (List.mem_of_getElem? g1)
    refine ⟨x0, x2, z, g2, g1, hx0, h2, g3, g4, fun hd => ?_⟩
    obtain ⟨k1, k2, k3, k4, k5, k6⟩ := f3 (by omega) hd
    rw [E.R i k hk] at k2 k6
    refine ⟨by rw [← e4]; exact k1, k2, by rw [k3, e6], fun hrow => by rw [k4 (by rw [e4]; exact hrow), e7 hrow], fun hf => k5 (by rw [e5]; exact hf), fun cells t fr hc => ?_⟩
    rw [E.w, k2] at k6
    exact k6 cells t fr hc
  let R1 : Nat → Nat := fun b => match look n b with | some _ => c'.R (newBase + (b - 16 * D)) | none => c.R b
  have hR1n : ∀ b x, look n b = some x → R1 b = c'.R (newBase + (b - 16 * D)) := fun b x hb => by simp only [R1, hb]
  have hR1c : ∀ b, look n b = none → R1 b = c.R b := fun b hb => by simp only [R1, hb]
  generalize hfr : (if cond = true then [] else freeze c.S l) = fr at hr
  have hlS : ∀ b, look ((n ++ (o ++ fr)) ++ c.S) b = match look n b with | some x => some x | none => match look o b with | some x => some x | none => look (fr ++ c.S) b := by
    intro b
    rw [look_app, look_app, look_app]
    cases look n b with
    | some x => rfl
    | none =>
      cases look o b with
      | some x => rfl
      | none =>
        simp only
        rw [look_app]
  have hfrl : ∀ b, look (fr ++ c.S) b = (look c.S b).map fun x => if cond = false ∧ b ∈ l then { x with fz := true } else x := by
    intro b
    rw [← hfr]
    by_cases hc : cond = true
    · rw [if_pos hc]
      simp [hc]
    · rw [if_neg hc, look_freeze]
      have : cond = false := by simpa using hc
      simp [this]
  have hlO : ∀ b x, look o b = some x → ∃ i : Nat, ks[i]? = some b := by
    intro b x hb
    by_cases hk : b ∈ ks
    · exact List.getElem?_of_mem hk
    · rw [b2 b hk] at hb; cases hb
  have hcl : ∀ b x, look ((n ++ (o ++ fr)) ++ c.S) b = some x → x.k ≠ .dead →
      (∃ e y, look c'.S e = some y ∧ R1 b = c'.R e ∧ (y ∈ r.out ∨ y ∈ r.new) ∧ renBlk m y = some { x with v := 0 } ∧ ((newBase ≤ e ∧ b = 16 * D + (e - newBase) ∧ full = true) ∨ (outBase ≤ e ∧ e < newBase ∧ ks[e - outBase]? = some b))) ∨
      (b ∉ ks ∧ R1 b = c.R b ∧ ∃ x0, look c.S b = some x0 ∧ x.v = x0.v ∧ x.k = x0.k ∧ x.sz = x0.sz ∧ x.es = x0.es ∧ (x.fz = false → x0.fz = false) ∧ (cond = false → b ∈ l → x.fz = true)) := by
    intro b x hb hd
    rw [hlS] at hb
    cases hn1 : look n b with
    | some y =>
      rw [hn1] at hb
      cases hb
      obtain ⟨hf, i, y, z, g1, g2, g3, g4⟩ := hnew b x hn1
      refine .inl ⟨newBase + i, y, hcnew i y g2, ?_, .inr (List.mem_of_getElem? g2), ?_, .inl ⟨by omega, by omega, hf⟩⟩
      · rw [hR1n b x hn1, g1]; congr 1; omega
      · rw [g3, g4]
        have := (renBlk_some g3).1
        congr 1
        rw [← this]
    | none =>
      rw [hn1] at hb
      cases ho1 : look o b with
      | some y =>
        rw [ho1] at hb
        cases hb
        obtain ⟨i, hi⟩ := hlO b x ho1
        obtain ⟨x0, x', z, g1, g2, g3, g4, g5, g6, g7⟩ := hO i b hi
        have : x = { z with v := x0.v } := Option.some.inj (ho1.symm.trans g6)
        have hz := renBlk_some g5
        obtain ⟨k1, k2, _⟩ := g7 (by rw [← hz.2.1]; rw [this] at hd; exact hd)
        have hlt := (List.getElem?_eq_some_iff.1 g2).1
        refine .inl ⟨outBase + i, x', g4, ?_, .inl (List.mem_of_getElem? g2), ?_, .inr ⟨by omega, by unfold newBase outBase; omega, by rw [show outBase + i - outBase = i by omega]; exact hi⟩⟩
        · rw [hR1c b hn1, k2]
        · rw [g5, this]
          congr 1
          rw [← hz.1]
      | none =>
        rw [ho1] at hb
        simp only [hfrl] at hb
        have hk : b ∉ ks := by
          intro hk
          obtain ⟨i, hi⟩ := List.getElem?_of_mem hk
          obtain ⟨x0, x', z, g1, g2, g3, g4, g5, g6, g7⟩ := hO i b hi
          rw [ho1] at g6; cases g6
        cases hc1 : look c.S b with
        | none => rw [hc1] at hb; cases hb
        | some x0 =>
          rw [hc1] at hb
          simp only [Option.map_some] at hb
          have hb' := (Option.some.inj hb).symm
          refine .inr ⟨hk, hR1c b hn1, x0, rfl, ?_⟩
          by_cases hq : cond = false ∧ b ∈ l
          · rw [if_pos hq] at hb'
            subst hb'
            exact ⟨rfl, rfl, rfl, rfl, fun h => (by cases h), fun _ _ => rfl⟩
          · rw [if_neg hq] at hb'
            subst hb'
            exact ⟨rfl, rfl, rfl, rfl, id, fun h1 h2 => absurd ⟨h1, h2⟩ hq⟩
  have hlt : ∀ b x, look c.S b = some x → x.k ≠ .dead → c.R b < c.w.heap.size := fun b x h1 h2 => (h.blk b x h1 h2).lt
  have hnotG : ∀ b x, b ∉ ks → look c.S b = some x → x.k ≠ .dead → ¬ Gk c ks (c.R b) := by
    rintro b x hb hx hd ⟨k, y, g1, g2, g3, g4, g5⟩
    exact hb ((h.inj k b y x g2 g3 hx hd g5) ▸ g1)
  have hnotL : ∀ b x, b ∉ ks → look c.S b = some x → x.k ≠ .dead → ¬ Lk c ks (c.R b) := by
    rintro b x hb hx hd ⟨k, y, g1, g2, g3, g5⟩
    exact hb ((h.inj k b y x g2 g3 hx hd g5) ▸ g1)
  let c1 : Cx := { w := c'.w, S := (n ++ (o ++ fr)) ++ c.S, R := R1, F := fOf X R1 ((n ++ (o ++ fr)) ++ c.S) }
  have hGF : ∀ i, Gk c ks i → c.F i := by
    rintro i ⟨k, x, g1, g2, g3, g4, g5⟩
    exact (h.hF i).2 (.inr ⟨k, x, g2, g3, g4, g5⟩)
  have L : Le c c1 := by
    refine ⟨hW'.size, fun i hi hf hf' => ?_, fun i hi hf => hW'.kept i hi (fun hg => hf (hGF i hg)), fun b x hx => ?_⟩
    · rcases hf' with hx | ⟨b, x, g1, g2, g3, g4⟩
      · exact hf ((h.hF i).2 (.inl hx))
      · rcases hcl b x g1 g2 with ⟨e, y, k1, k2, _, k3, _⟩ | ⟨k1, k2, x0, k3, _, k5, _, _, k8, _⟩
        · obtain ⟨_, q2, q3, _⟩ := renBlk_some k3
          rcases (hW'.own e y k1 (by rw [← q2]; exact g2)).1 (by rw [← q3]; exact g3) with j1 | j1
          · have : R1 b = i := g4
            rw [k2] at this
            omega
          · refine hf (hGF i ?_)
            rw [← g4, k2]; exact j1
        · refine hf ((h.hF i).2 (.inr ⟨b, x0, k3, by rw [← k5]; exact g2, k8 g3, ?_⟩))
          rw [← k2]; exact g4
    · cases hn1 : look n b with
      | some y =>
        obtain ⟨hf, i, y', z, g1, g2, g3, g4⟩ := hnew b y hn1
        have hyv : y.v = x.v + 1 := by rw [g4]; simp only [nextV, hx]
        exact ⟨y, by show look _ b = _; rw [hlS, hn1], by omega, fun e => by omega⟩
      | none =>
        by_cases hk : b ∈ ks
        · obtain ⟨i, hi⟩ := List.getElem?_of_mem hk
          obtain ⟨x0, x', z, g1, g2, g3, g4, g5, g6, g7⟩ := hO i b hi
          have : x0 = x := Option.some.inj (g1.symm.trans hx)
          subst this
          obtain ⟨q1, q2, q3, q4, q5, q6⟩ := renBlk_some g5
          refine ⟨{ z with v := x0.v }, by show look _ b = _; rw [hlS, hn1, g6], Nat.le_refl _, fun _ hd => ?_⟩
          obtain ⟨k1, k2, k3, k4, k5, k6⟩ := g7 (by rw [← q2]; exact hd)
          refine ⟨k1.trans q2.symm, hR1c b hn1, q4.trans k3, fun hrow => ?_, fun hf => ?_, fun cells t fr hc => ?_⟩
          · show z.es.length = _
            rw [q5 (by rw [← k1]; exact hrow), k4 hrow]
          · show z.fz = _
            rw [q3]; exact k5 hf
          · show ∃ cells' t' fr', c'.w.heap[R1 b]? = _ ∧ _
            rw [hR1c b hn1]; exact k6 cells t fr hc
        · refine ⟨if cond = false ∧ b ∈ l then { x with fz := true } else x, ?_, ?_, fun _ hd => ?_⟩
          · show look _ b = _
            rw [hlS, hn1, b2 b hk]
            simp only [hfrl, hx, Option.map_some]
          · split <;> exact Nat.le_refl _
          · have hd' : x.k ≠ .dead := by
              intro e; apply hd; split <;> exact e
            refine ⟨by split <;> rfl, hR1c b hn1, by split <;> rfl, fun _ => by split <;> rfl, fun hf => by split <;> first | rfl | exact hf, fun cells t fr hc => ⟨cells, t, fr, ?_, rfl⟩⟩
            show c'.w.heap[R1 b]? = _
            rw [hR1c b hn1, hW'.kept _ (hlt b x hx hd') (hnotG b x hk hx hd')]; exact hc
  have hlookn : ∀ b x, look n b = some x → look c1.S b = some x := fun b x hb => by show look _ b = _; rw [hlS, hb]
  have hK : ∀ b, outBase ≤ b → newBase ≤ b → b < newBase → False := fun b _ h1 h2 => by omega
  -- a block of the callee is no other block of the caller
  have hclash : ∀ e y b x0, look c'.S e = some y → y.k ≠ .dead → b ∉ ks → look c.S b = some x0 → x0.k ≠ .dead → c'.R e ≠ c.R b := by
    intro e y b x0 g1 g2 g3 g4 g5 ee
    rcases hW'.low e y g1 g2 with j | j
    · have := hlt b x0 g4 g5
      omega
    · exact hnotL b x0 g3 g4 g5 (ee ▸ j)
  have hren : cond = false → Ren c' c1 m := by
    intro hc0
    have hF' : ∀ b, c1.F b → c'.F b := by
      rintro b (hx | ⟨b', x, g1, g2, g3, g4⟩)
      · exact (hW'.hF b).2 (.inl (.inl hx))
      · rcases hcl b' x g1 g2 with ⟨e, y, k1, k2, _, k3, _⟩ | ⟨k1, k2, x0, k3, _, k5, _, _, k8, k9⟩
        · obtain ⟨_, q2, q3, _⟩ := renBlk_some k3
          exact (hW'.hF b).2 (.inr ⟨e, y, k1, by rw [← q2]; exact g2, by rw [← q3]; exact g3, by rw [← k2]; exact g4⟩)
        · have hnl : b' ∉ l := fun hl => by rw [k9 hc0 hl] at g3; cases g3
          refine (hW'.hF b).2 (.inl (.inr ⟨b', x0, k1, ?_, by rw [← k5]; exact g2, k8 g3, by rw [E.frz.R, ← k2]; exact g4⟩))
          rw [E.frz.S, look_freeze, k3]
          simp [hnl]
    have hpv : ∀ {a v}, PV c'.w c'.F a v → PV c1.w c1.F a v := fun hp => hp.mono (Nat.le_refl _) (fun b _ hf hf' => hf (hF' b hf')) (fun _ _ _ => rfl)
    refine ⟨Nat.le_refl _, fun b _ hf hf' => hf (hF' b hf'), fun _ _ _ => rfl, fun b w nm hnm => ?_⟩
    rw [← hm] at hnm
    unfold backM at hnm
    split at hnm
    · cases hnm
    rename_i hb1
    split at hnm
    · cases hnm
    rename_i hw
    have hw0 : w = 0 := by omega
    subst hw0
    split at hnm
    · rename_i hb2
      split at hnm
      · rename_i x k hx hk
        split at hnm
        · cases hnm
        rename_i hd
        split at hnm
        · rename_i y hy
          cases hnm
          obtain ⟨x0, x', z, g1, g2, g3, g4, g5, g6, g7⟩ := hO _ k hk
          have e1 : x0 = y := Option.some.inj (g1.symm.trans hy)
          have e2 : x' = x := Option.some.inj (g2.symm.trans hx)
          subst e1; subst e2
          have eb : outBase + (b - outBase) = b := by omega
          rw [eb] at g4 g7
          obtain ⟨q1, q2, q3, q4, q5, q6⟩ := renBlk_some g5
          obtain ⟨k1, k2, k3, k4, k5, k6⟩ := g7 hd
          refine ⟨x', g4, g3, ?_⟩
          cases hn1 : look n k with
          | some y' =>
            obtain ⟨_, i, y2, z2, j1, j2, j3, j4⟩ := hnew k y' hn1
            have hyv : y'.v = x0.v + 1 := by rw [j4]; simp only [nextV, hy]
            exact ⟨y', hlookn k y' hn1, by omega, fun e => by omega⟩
          | none =>
            refine ⟨{ z with v := x0.v }, by show look _ k = _; rw [hlS, hn1, g6], Nat.le_refl _, fun _ hd' => ⟨q2, ?_, q4, fun hrow => by show z.es.length = _; rw [q5 hrow], fun cells t fr hc => ⟨cells, t, fr, ?_, rfl⟩⟩⟩
            · show R1 k = _
              rw [hR1c k hn1, k2]
            · show c'.w.heap[R1 k]? = _
              rw [hR1c k hn1, ← k2]; exact hc
        · cases hnm
      · cases hnm
    · rename_i hb2
      split at hnm
      · rename_i x hx
        have eb : newBase + (b - newBase) = b := by omega
        have hlx := hcnew _ x hx
        rw [eb] at hlx
        have hx0 := hnv' x (List.mem_of_getElem? hx)
        have hfl : full = true → ∃ z, renBlk m x = some z ∧ NmOk c' c1 b 0 (.key (16 * D + (b - newBase)) (nextV c.S (16 * D + (b - newBase)))) := by
          intro hf
          obtain ⟨z, g1, g2⟩ := hnew2 hf _ x hx
          obtain ⟨q1, q2, q3, q4, q5, q6⟩ := renBlk_some g1
          have hRn : R1 (16 * D + (b - newBase)) = c'.R b := by rw [hR1n _ _ g2, show newBase + (16 * D + (b - newBase) - 16 * D) = b by omega]
          refine ⟨z, g1, x, hlx, hx0, _, hlookn _ _ g2, Nat.le_refl _, fun _ _ => ⟨q2, hRn, q4, fun hrow => by show z.es.length = _; rw [q5 hrow], fun cells t fr hc => ⟨cells, t, fr, ?_, rfl⟩⟩⟩
          show c'.w.heap[R1 _]? = _
          rw [hRn]; exact hc
        split at hnm
        · cases hnm
        · split at hnm
          · rename_i hf
            cases hnm
            obtain ⟨z, _, g⟩ := hfl hf
            exact g
          · cases hnm
        · rename_i hk
          split at hnm
          · rename_i hf
            cases hnm
            obtain ⟨z, _, g⟩ := hfl hf
            exact g
          · rename_i hf
            cases hnm
            have hd : x.k ≠ .dead := by rw [hk]; decide
            obtain ⟨cells, t, lo, hi, g1, g2, g3, g4⟩ := (hW'.blk b x hlx hd).here
            obtain ⟨g5, g6⟩ := g4 hk
            refine ⟨x, hlx, hx0, hk, rfl, g5, (hW'.blk b x hlx hd).lt, ?_, cells, t, (lo, hi), g1, fun k a hk => let ⟨v, v1, v2⟩ := g6 k a hk; ⟨v, v1, hpv v2⟩⟩
            rintro (hx' | ⟨b', y, j1, j2, j3, j4⟩)
            · exact (hW'.own b x hlx hd).2 (.inl hx')
            · rcases hcl b' y j1 j2 with ⟨e, y', k1, k2, _, k3, k4⟩ | ⟨k1, k2, x0, k3, _, k5, _⟩
              · obtain ⟨_, q2, q3, _⟩ := renBlk_some k3
                have heb : e = b := hW'.inj e b y' x k1 (by rw [← q2]; exact j2) hlx hd (by rw [← k2]; exact j4)
                rcases k4 with ⟨_, _, m2⟩ | ⟨_, m2, _⟩
                · exact hf m2
                · omega
              · exact hclash b x b' x0 hlx hd k1 k3 (by rw [← k5]; exact j2) (by rw [← k2]; exact j4.symm)
      · cases hnm
  have hcn : cond = true → r.res.noSlc = true ∧ ∀ y, y ∈ r.out ∨ y ∈ r.new → ∀ a ∈ y.es, a.noSlcA = true := by
    intro hc
    rw [← hcond] at hc
    simp only [Bool.and_eq_true] at hc
    refine ⟨hc.1.1, fun y hy a ha => ?_⟩
    rcases hy with hy | hy
    · exact List.all_eq_true.1 ((Bool.and_eq_true_iff).1 (List.all_eq_true.1 hc.1.2 y hy)).2 a ha
    · exact List.all_eq_true.1 ((Bool.and_eq_true_iff).1 (List.all_eq_true.1 hc.2 y hy)).2 a ha
  have hW1 : WR w0 G X Lo c1 := by
    refine ⟨Nat.le_trans h.size hW'.size, ?_, by rw [← h.os]; exact hW'.os, by rw [← h.out]; exact hW'.out, h.xs, ?_, ?_, ?_, ?_, fun _ => Iff.rfl⟩
    · intro i hi hg
      rw [← h.kept i hi hg]
      refine hW'.kept i (Nat.lt_of_lt_of_le hi h.size) ?_
      rintro ⟨k, x, g1, g2, g3, g4, g5⟩
      rcases (h.own k x g2 g3).1 g4 with j | j
      · omega
      · exact hg (g5 ▸ j)
    · intro b x g1 g2
      rcases hcl b x g1 g2 with ⟨e, y, k1, k2, _, k3, _⟩ | ⟨k1, k2, x0, k3, _, k5, _, _, k8, _⟩
      · obtain ⟨_, q2, q3, _⟩ := renBlk_some k3
        obtain ⟨j1, j2⟩ := hW'.own e y k1 (by rw [← q2]; exact g2)
        show (_ → _ ≤ R1 b ∨ G (R1 b)) ∧ ¬ X (R1 b)
        rw [k2]
        refine ⟨fun hf => ?_, fun hx => j2 (.inl hx)⟩
        rcases j1 (by rw [← q3]; exact hf) with j | ⟨k, x', i1, i2, i3, i4, i5⟩
        · exact .inl (Nat.le_trans h.size j)
        · rw [← i5]; exact (h.own k x' i2 i3).1 i4
      · obtain ⟨j1, j2⟩ := h.own b x0 k3 (by rw [← k5]; exact g2)
        show (_ → _ ≤ R1 b ∨ G (R1 b)) ∧ ¬ X (R1 b)
        rw [k2]
        exact ⟨fun hf => j1 (k8 hf), j2⟩
    · intro b x g1 g2
      show _ ≤ R1 b ∨ Lo (R1 b)
      rcases hcl b x g1 g2 with ⟨e, y, k1, k2, _, k3, _⟩ | ⟨k1, k2, x0, k3, _, k5, _⟩
      · obtain ⟨_, q2, q3, _⟩ := renBlk_some k3
        rw [k2]
        rcases hW'.low e y k1 (by rw [← q2]; exact g2) with j | ⟨k, x', i1, i2, i3, i5⟩
        · exact .inl (Nat.le_trans h.size j)
        · rw [← i5]; exact h.low k x' i2 i3
      · rw [k2]; exact h.low b x0 k3 (by rw [← k5]; exact g2)
    · intro b b' x x' g1 g2 g1' g2' ee
      have ee' : R1 b = R1 b' := ee
      rcases hcl b x g1 g2 with ⟨e, y, k1, k2, _, k3, k4⟩ | ⟨k1, k2, x0, k3, _, k5, _⟩
      · obtain ⟨_, q2, q3, _⟩ := renBlk_some k3
        rcases hcl b' x' g1' g2' with ⟨e', y', k1', k2', _, k3', k4'⟩ | ⟨k1', k2', x0', k3', _, k5', _⟩
        · obtain ⟨_, q2', q3', _⟩ := renBlk_some k3'
          have heq : e = e' := hW'.inj e e' y y' k1 (by rw [← q2]; exact g2) k1' (by rw [← q2']; exact g2') (by rw [← k2, ← k2', ee'])
          subst heq
          rcases k4 with ⟨m1, m2, _⟩ | ⟨m1, m2, m3⟩
          · rcases k4' with ⟨m1', m2', _⟩ | ⟨m1', m2', m3'⟩
            · omega
            · omega
          · rcases k4' with ⟨m1', m2', _⟩ | ⟨m1', m2', m3'⟩
            · omega
            · exact Option.some.inj (m3.symm.trans m3')
        · exact absurd (by rw [← k2, ← k2', ee']) (hclash e y b' x0' k1 (by rw [← q2]; exact g2) k1' k3' (by rw [← k5']; exact g2'))
      · rcases hcl b' x' g1' g2' with ⟨e', y', k1', k2', _, k3', k4'⟩ | ⟨k1', k2', x0', k3', _, k5', _⟩
        · obtain ⟨_, q2', q3', _⟩ := renBlk_some k3'
          exact absurd (by rw [← k2, ← k2', ee']) (hclash e' y' b x0 k1' (by rw [← q2']; exact g2') k1 k3 (by rw [← k5]; exact g2))
        · exact h.inj b b' x0 x0' k3 (by rw [← k5]; exact g2) k3' (by rw [← k5']; exact g2') (by rw [← k2, ← k2', ee'])
    · intro b x g1 g2
      rcases hcl b x g1 g2 with ⟨e, y, k1, k2, ky, k3, _⟩ | ⟨k1, k2, x0, k3, _, k5, k6, k7, _⟩
      · obtain ⟨_, q2, q3, q4, q5, q6⟩ := renBlk_some k3
        have q2 : x.k = y.k := q2
        have q4 : x.sz = y.sz := q4
        have q5 : y.k = .row → x.es = y.es := q5
        have q6 : y.k = .box → mapO (renD m) y.es = some x.es := q6
        obtain ⟨cells, t, lo, hi, j1, j2, j3, j4⟩ := (hW'.blk e y k1 (by rw [← q2]; exact g2)).here
        refine ⟨cells, t, lo, hi, by show c'.w.heap[R1 b]? = _; rw [k2]; exact j1, j2, fun hk => ?_, fun hk => ?_⟩
        · refine mapO_renD_content (fun a a' v ha hoa hv hr => ?_) (q6 (q2 ▸ hk)) (j3 (q2 ▸ hk))
          by_cases hc : cond = true
          · have hns := noSlcA_C ((hcn hc).2 y ky a ha) hoa
            rw [renD_noSlc hns hr]
            exact ⟨noSlcC_V hns hv, hoa⟩
          · exact renD_ok (hren (by simpa using hc)) hv hr
        · obtain ⟨j5, j6⟩ := j4 (q2 ▸ hk)
          rw [q4, q5 (q2 ▸ hk)]
          refine ⟨j5, fun k a hk => ?_⟩
          obtain ⟨v, v1, v2⟩ := j6 k a hk
          refine ⟨v, v1, ?_⟩
          by_cases hc : cond = true
          · obtain ⟨e', he', ha'⟩ := List.mem_flatMap.1 (List.mem_of_getElem? hk)
            exact noSlcC_PV (noSlcA_cells ((hcn hc).2 y ky e' he') a ha') v2
          · exact (hren (by simpa using hc)).pv v2
      · have hd : x0.k ≠ .dead := by rw [← k5]; exact g2
        obtain ⟨cells, t, lo, hi, j1, j2, j3, j4⟩ := (h.blk b x0 k3 hd).here
        refine ⟨cells, t, lo, hi, ?_, j2, fun hk => by rw [k7]; exact (j3 (k5 ▸ hk)).mono L, fun hk => by rw [k6, k7]; exact ⟨(j4 (k5 ▸ hk)).1, (j4 (k5 ▸ hk)).2.mono L⟩⟩
        show c'.w.heap[R1 b]? = _
        rw [k2, hW'.kept _ (hlt b x0 k3 hd) (hnotG b x0 k1 k3 hd)]; exact j1
  refine ⟨c1, res', n ++ (o ++ fr), ?_, rfl, rfl, hW1, L, ?_⟩
  · split at hr
    · rename_i hp; rw [if_pos hp]; exact (Option.some.inj hr).symm
    · rename_i hp; rw [if_neg hp]; exact (Option.some.inj hr).symm
  · by_cases hc : cond = true
    · rw [renT_noSlc (hcn hc).1 hres]
      exact noSlc_V (hcn hc).1 hv
    · exact renT_ok (hren (by simpa using hc)) hv hres

end
end Go.Ab
