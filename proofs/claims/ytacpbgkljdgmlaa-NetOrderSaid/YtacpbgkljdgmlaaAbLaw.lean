/- A law of arguments in kinds: its call. -/
import Derived.Test.YtacpbgkljdgmlaaAbIn2
set_option linter.unusedVariables false
set_option linter.unusedSimpArgs false
namespace Go.Ab
open Go

section
variable {P : Program} {H : Type} {enc : TypeId × Value → H}

/-- Parameters' kinds. -/
def sigF (P : Program) : List TypeId → Option (Shp × List Lf)
  | [] => some ([], [])
  | t :: ts => match leafsC P 10 t, isAggT P t, sigF P ts with
    | some l, some true, some (sh, ls) => some (some l.length :: sh, l ++ ls)
    | some [f], some false, some (sh, ls) => some (none :: sh, f :: ls)
    | _, _, _ => none

theorem isAgg_inv {t : TypeId} {b : Bool} (h : isAggT P t = some b) : (b = true → ∃ u, P.underlying t = some u ∧ ((∃ fs, u = .struct fs) ∨ ∃ n e, u = .array n e)) ∧
    (b = false → ∀ fs, P.underlying t ≠ some (.struct fs)) ∧ (b = false → ∀ n e, P.underlying t ≠ some (.array n e)) := by
  unfold isAggT at h
  split at h
  · rename_i fs hu
    cases h
    exact ⟨fun _ => ⟨_, hu, .inl ⟨fs, rfl⟩⟩, fun h => by (cases h), fun h => by (cases h)⟩
  · rename_i n e hu
    cases h
    exact ⟨fun _ => ⟨_, hu, .inr ⟨n, e, rfl⟩⟩, fun h => by (cases h), fun h => by (cases h)⟩
  · rename_i u h1 h2 hu
    cases h
    refine ⟨fun h => by (cases h), fun _ fs hh => ?_, fun _ n e hh => ?_⟩
    · rw [hu] at hh; cases hh; exact h1 _ rfl
    · rw [hu] at hh; cases hh; exact h2 _ _ rfl
  · cases h

theorem groupA_some (n : Nat) (r : Shp) (cs : List AV) : groupA (some n :: r) cs = .agg (cs.take n) :: groupA r (cs.drop n) := by
  cases cs <;> rfl

theorem args_in {W W' : World} {base : Nat} (hk : ∀ i, i < W.heap.size → W'.heap[i]? = W.heap[i]?) : ∀ {ts : List TypeId} {sh : Shp} {fs : List Lf}, sigF P ts = some (sh, fs) → ∀ {vs : List Value} {ds : List (DataW H)} {ps : List MemPlace},
    (∀ (j : Nat) t v, ts[j]? = some t → vs[j]? = some v → Value.okWide P W .any base t v) → DataW.TrodAll enc P W 0 (fun _ => true) true ts vs ds ps →
    (∃ as, HasL fs as ∧ (groupA sh as).length = vs.length ∧ ∀ (i : Nat) a v, (groupA sh as)[i]? = some a → vs[i]? = some v → PV W (fun _ => False) a v) ∧
      ∀ sp : Nat → Bool, (∀ p ∈ ps, sp p.block = true) → DataW.TrodAll enc P W' 0 sp true ts vs ds ps
  | [], sh, fs, hs, vs, ds, ps, hv, hA => by
    cases hs
    cases vs with
    | cons => exact hA.elim
    | nil => cases ds with
      | cons => exact hA.elim
      | nil =>
        have : ps = [] := hA
        subst this
        exact ⟨⟨[], trivial, rfl, fun i a v h => by simp [groupA] at h⟩, fun sp _ => rfl⟩
  | t :: ts, sh, fs, hs, [], ds, ps, hv, hA => by cases ds <;> exact hA.elim
  | t :: ts, sh, fs, hs, v :: vs, [], ps, hv, hA => hA.elim
  | t :: ts, sh, fs, hs, v :: vs, d :: ds, ps, hv, hA => by
    obtain ⟨p, q, ⟨fuel, hd⟩, hr, rfl⟩ := hA
    unfold sigF at hs
    have hv0 := hv 0 t v rfl rfl
    split at hs
    · rename_i l sh' ls hl ha hs'
      cases hs
      obtain ⟨⟨as, g1, g2, g3⟩, g4⟩ := args_in hk hs' (fun j t v h1 h2 => hv (j + 1) t v h1 h2) hr
      obtain ⟨⟨bs, k1, k2⟩, k3⟩ := trod_in (enc := enc) hk 10 t l hl fuel _ _ hd
      constructor
      · refine ⟨bs ++ as, hasL_append k1 g1, ?_, ?_⟩
        · rw [groupA_some, List.drop_left' (hasL_length k1)]
          simp [g2]
        · rw [groupA_some, List.drop_left' (hasL_length k1), List.take_left' (hasL_length k1)]
          intro i a u h1 h2
          cases i with
          | zero =>
            simp at h1 h2
            subst h1; subst h2
            obtain ⟨u, hu, hu'⟩ := (isAgg_inv ha).1 rfl
            have : ∃ cs, v = .agg cs := by
              unfold Value.okWide at hv0
              rw [hu] at hv0
              rcases hu' with ⟨fs, rfl⟩ | ⟨n, e, rfl⟩
              · obtain ⟨cs, h, _⟩ := hv0; exact ⟨cs, h⟩
              · obtain ⟨cs, h, _⟩ := hv0; exact ⟨cs, h⟩
            obtain ⟨cs, rfl⟩ := this
            have := PV.agg bs cs.toList k2.1 (hasL_okC k1) k2.2
            simpa using this
          | succ i => simp at h1 h2; exact g3 i a u h1 h2
      · intro sp hsp
        exact ⟨p, q, ⟨fuel, k3 sp fun x hx => hsp x (by simp at hx ⊢; exact .inl hx)⟩, g4 sp fun x hx => hsp x (by simp; exact .inr hx), rfl⟩
    · rename_i f sh' ls hl ha hs'
      cases hs
      obtain ⟨⟨as, g1, g2, g3⟩, g4⟩ := args_in hk hs' (fun j t v h1 h2 => hv (j + 1) t v h1 h2) hr
      obtain ⟨⟨bs, k1, k2⟩, k3⟩ := trod_in (enc := enc) hk 10 t [f] hl fuel _ _ hd
      have hb : ∃ b, bs = [b] := by
        have := hasL_length k1
        match bs, this with
        | [b], _ => exact ⟨b, rfl⟩
      obtain ⟨b, rfl⟩ := hb
      constructor
      · refine ⟨b :: as, ⟨k1.1, g1⟩, by simp [groupA, g2], ?_⟩
        intro i a u h1 h2
        cases i with
        | zero =>
          simp [groupA] at h1 h2
          subst h1; subst h2
          have hna : v.cells = #[v] := by
            obtain ⟨_, i1, i2⟩ := isAgg_inv ha
            unfold Value.okWide at hv0
            split at hv0
            · rename_i fs hu; exact absurd hu (i1 rfl fs)
            · rename_i n e hu; exact absurd hu (i2 rfl n e)
            · cases v <;> first | rfl | skip
              unfold Cell.okWide at hv0
              split at hv0 <;> rename_i hh <;> first | (cases hh; done) | skip
              unfold Cell.ok at hv0
              split at hv0 <;> rename_i hh <;> first | (cases hh; done) | exact hv0.elim
          have hc := k2
          rw [hna] at hc
          exact hc.2 0 _ _ rfl rfl
        | succ i => simp [groupA] at h1 h2; exact g3 i a u h1 h2
      · intro sp hsp
        exact ⟨p, q, ⟨fuel, k3 sp fun x hx => hsp x (by simp at hx ⊢; exact .inl hx)⟩, g4 sp fun x hx => hsp x (by simp; exact .inr hx), rfl⟩
    · cases hs

theorem trod_len {W : World} {base : Nat} {sp : Nat → Bool} {hd : Bool} : ∀ {ts : List TypeId} {vs : List Value} {ds : List (DataW H)} {ps : List MemPlace}, DataW.TrodAll enc P W base sp hd ts vs ds ps → ds.length = ts.length
  | [], [], [], _, _ => rfl
  | [], [], _ :: _, _, h => h.elim
  | [], _ :: _, ds, _, h => by cases ds <;> exact h.elim
  | _ :: _, [], ds, _, h => by cases ds <;> exact h.elim
  | _ :: _, _ :: _, [], _, h => h.elim
  | t :: ts, v :: vs, d :: ds, _, h => by
    obtain ⟨p, q, _, h2, _⟩ := h
    simp [trod_len h2]

/-- A law's call. -/
theorem law_calls {callF : CallF} (hF : FnOk P callF) {f : FuncId} {ts : List TypeId} {sh : Shp} {fs : List Lf} (hsig : sigF P ts = some (sh, fs))
    (hu : ∀ d : Tu fs, Tu.wf fs d → ∃ r, callF f (groupA sh (Tu.mk fs d)) [] = some r ∧ r.pan = false ∧ r.res = .bool true)
    {W : World} {base : Nat} {args : Array Value} {ds : List (DataW H)} {ps : List MemPlace} (hval : ∀ (j : Nat) t v, ts[j]? = some t → args.toList[j]? = some v → Value.okWide P W .any base t v)
    (hA : DataW.TrodAll enc P W 0 (fun _ => true) true ts args.toList ds ps) :
    Calls P f args W fun e W' => e = .returned (.bool true) ∧ W'.os = W.os ∧ W'.output = W.output ∧ (∀ i, i < W.heap.size → W'.heap[i]? = W.heap[i]?) ∧
      ∀ sp : Nat → Bool, (∀ q ∈ ps, sp q.block = true) → DataW.TrodAll enc P W' 0 sp true ts args.toList ds ps := by
  obtain ⟨⟨as, h1, h2, h3⟩, _⟩ := args_in (enc := enc) (W := W) (W' := W) (fun i hi => rfl) hsig hval hA
  obtain ⟨d, rfl, hwf⟩ := hasL_tu h1
  obtain ⟨r, hr, hpan, hres⟩ := hu d hwf
  let c : Cx := { w := W, F := fOf (fun _ => False) (fun _ => 0) [], R := fun _ => 0, S := [] }
  have hcF : c.F = fun _ => False := by
    funext i
    refine propext ⟨?_, fun h => h.elim⟩
    rintro (h | ⟨b, x, h, _⟩)
    · exact h
    · cases h
  have hW : WR W (fun _ => False) (fun _ => False) (fun _ => False) c :=
    ⟨Nat.le_refl _, fun _ _ _ => rfl, rfl, rfl, fun _ h => h.elim, fun b x h => by simp [c, look] at h, fun b x h => by simp [c, look] at h, fun b b' x x' h => by simp [c, look] at h, fun b x h => by simp [c, look] at h, fun _ => Iff.rfl⟩
  have hVL : VL c (groupA sh (Tu.mk fs d)) args.toList := ⟨h2, fun i a v g1 g2 => .pure (by rw [hcF]; exact h3 i a v g1 g2)⟩
  have := hF.ok hr (c := c) (w0 := W) rfl (fun x hx => by simp at hx) hW hVL
  rw [Array.toArray_toList] at this
  refine this.mono ?_
  rintro e W' ⟨c', v, rfl, _, k3, _, k5, k6⟩
  rw [hres] at k5
  have hv := k5.bool_inv
  rw [hpan] at k6
  subst hv
  have hkeep : ∀ i, i < W.heap.size → c'.w.heap[i]? = W.heap[i]? := fun i hi => k3.kept i hi (fun h => h)
  exact ⟨by simpa using k6, k3.os, k3.out, hkeep, (args_in (enc := enc) hkeep hsig hval hA).2⟩
end
end Go.Ab
