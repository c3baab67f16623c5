/- Functions: what they leave. -/
import Derived.Test.YtihgfpggdkhhaaaAbCode
set_option linter.unusedVariables false
set_option linter.unusedSimpArgs false
namespace Go.Ab
open Go

section
variable {P : Program} {w0 : World} {G X Lo : Nat → Prop}

def resSem (tmps : Array Value) : ResultVar → Sem Value
  | .tmp t => pure (tmps.getD t Go.undef)
  | .cell b t => do loadVar t (← asAddr (tmps.getD b Go.undef))

theorem results_sem (fn : Func) (tmps : Array Value) : results fn tmps = (do let vs ← fn.results.mapM (resSem tmps); pure (if h : vs.size = 1 then vs[0] else .tuple vs)) := rfl

theorem results_ok {n : Nat} {c0 c : Cx} {st : St} {a : Act} (h : Sim w0 G X Lo n c0 c st a) : ∀ {l : List ResultVar} {vs : List AV}, mapO (resultOf P st) l = some vs →
    ∃ us : List Value, (List.mapM (resSem a.tmps) l).run P c.w = .ok us c.w ∧ VL c vs us
  | [], vs, hr => by simp [mapO] at hr; subst hr; exact ⟨[], by simp, VL.nil⟩
  | x :: l, vs, hr => by
    simp only [mapO] at hr
    split at hr
    · rename_i v hv
      split at hr
      · rename_i vs' hvs
        cases hr
        obtain ⟨us, h1, h2⟩ := results_ok h hvs
        cases x with
        | tmp t =>
          exact ⟨_ :: us, by rw [List.mapM_cons, Sem.run_bind]; simp only [resSem, Sem.run_pure, Result.andThen_ok]; rw [Sem.run_bind, h1]; rfl, VL.cons (h.fr.rel t v hv) h2⟩
        | cell b t =>
          simp only [resultOf, aLoad] at hv
          split at hv
          · rename_i cs off hc
            have hp : V c ((look st.fr b).getD .undef) (a.tmps.getD b Go.undef) := ev_ok h.fr (.tmp b)
            rw [← h.S] at hc
            obtain ⟨b', o, vals, e1, hl⟩ := cellsAt_lies h.wr hp hc
            obtain ⟨u, g1, g2⟩ := run_loadVar t hl hv
            refine ⟨u :: us, ?_, VL.cons g2 h2⟩
            have hb : (resSem a.tmps (.cell b t)).run P c.w = .ok u c.w := by
              simp only [resSem, e1, asAddr, Sem.run_bind, Sem.run_pure, Result.andThen_ok, g1]
            rw [List.mapM_cons, Sem.run_bind, hb, Result.andThen_ok, Sem.run_bind, h1]
            rfl
          · cases hv
      · cases hr
    · cases hr

theorem resultsOf_ok {n : Nat} {c0 c : Cx} {st : St} {a : Act} (h : Sim w0 G X Lo n c0 c st a) {fn : Func} {v : AV} (hr : resultsOf P st fn.results.toList = some v) :
    ∃ u, (results fn a.tmps).run P c.w = .ok u c.w ∧ V c v u := by
  unfold resultsOf at hr
  have key : ∀ us : List Value, (List.mapM (resSem a.tmps) fn.results.toList).run P c.w = .ok us c.w → (results fn a.tmps).run P c.w = .ok (if h : us.length = 1 then us[0] else .tuple us.toArray) c.w := by
    intro us hus
    have : fn.results = fn.results.toList.toArray := by simp
    rw [results_sem, this]
    simp only [List.mapM_toArray, Sem.run_bind]
    simp only [map_eq_pure_bind, Sem.run_bind]
    rw [hus]
    simp
  split at hr
  · rename_i v' hv
    cases hr
    obtain ⟨us, h1, h2⟩ := results_ok h hv
    obtain ⟨u, r, rfl, g1, g2⟩ := VL.of_cons h2
    have : r = [] := List.eq_nil_of_length_eq_zero (by simpa using g2.1.symm)
    subst this
    exact ⟨u, by rw [key _ h1]; simp, g1⟩
  · rename_i vs hn hv
    cases hr
    obtain ⟨us, h1, h2⟩ := results_ok h hv
    refine ⟨.tuple us.toArray, ?_, .tup vs us h2.1 h2.2⟩
    rw [key _ h1, dif_neg]
    intro he
    have := h2.1
    obtain ⟨x, hx⟩ := List.length_eq_one_iff.1 (this.trans he)
    exact hn x hx
  · cases hr

theorem leave_ok {n : Nat} {c0 c : Cx} {st : St} {a : Act} {out : List Blk} (hc0 : c0.S = outerSt out) (hout : ∀ x ∈ out, x.v = 0) (h : Sim w0 G X Lo n c0 c st a) {pan : Bool} {v : AV} {u : Value} (hv : V c v u) {r : Ret}
    (hr : leave st out.length pan v = some r) :
    r.pan = pan ∧ ∃ c', c'.w = c.w ∧ c'.S = outerSt r.out ++ withKeys newBase 0 r.new ∧ WR w0 G X Lo c' ∧ Le c0 c' ∧ V c' r.res u := by
  unfold leave at hr
  dsimp only at hr
  generalize hks : (closeR st.bs 3 (addNew [] (refsT v ++ ((List.range out.length).map (outBase + ·)).flatMap (blkRefs st.bs)))).filter (· < outBase) = ks at hr
  generalize hnm : (fun b w => match ldBlk st.bs b w with
    | some _ => if outBase ≤ b then (if b < outBase + out.length then some (Nm.key b 0) else none) else match idx? ks b 0 with
      | some i => some (Nm.key (newBase + i) 0)
      | none => none
    | none => none) = nm at hr
  split at hr
  · cases hr
  rename_i hchk
  have hlen : out.length ≤ 1000 := by
    rcases Nat.lt_or_ge 1000 out.length with h | h
    · exact absurd (.inr h) hchk
    · exact h
  have hv0 : ∀ i, i < out.length → ∃ x, look st.bs (outBase + i) = some x ∧ x.v = 0 := by
    intro i hi
    have h1 : (((List.range out.length).map (outBase + ·)).all fun b => match look st.bs b with
      | some x => decide (x.v = 0)
      | none => false) = true := by
      cases hh : (((List.range out.length).map (outBase + ·)).all fun b => match look st.bs b with
      | some x => decide (x.v = 0)
      | none => false) with
      | true => rfl
      | false => exact absurd (.inl hh) hchk
    have h2 := List.all_eq_true.1 h1 (outBase + i) (List.mem_map.2 ⟨i, List.mem_range.2 hi, rfl⟩)
    cases hl : look st.bs (outBase + i) with
    | none => rw [hl] at h2; cases h2
    | some x => rw [hl] at h2; exact ⟨x, rfl, by simpa using h2⟩
  split at hr
  · cases hr
  rename_i res hres
  split at hr
  · cases hr
  rename_i o ho
  split at hr
  · cases hr
  rename_i nw hn
  cases hr
  obtain ⟨o1, o2⟩ := mapN_get ho
  obtain ⟨n1, n2⟩ := mapN_get hn
  simp only [List.length_map, List.length_range] at o1
  have hnd : ks.Nodup := by
    rw [← hks]
    exact List.Nodup.sublist List.filter_sublist (closeR_nodup _ _ _ (addNew_nodup _ _ List.nodup_nil))
  have hko : ∀ k ∈ ks, k < outBase := by
    intro k hk
    rw [← hks] at hk
    simpa using (List.mem_filter.1 hk).2
  have hO : ∀ i, i < out.length → ∃ x y, look c.S (outBase + i) = some x ∧ x.v = 0 ∧ renBlk nm x = some y ∧ o[i]? = some y := by
    intro i hi
    obtain ⟨y, g1, g2⟩ := o2 i (outBase + i) (by simp [hi])
    obtain ⟨x, e1, e2⟩ := hv0 i hi
    unfold renAt at g1
    rw [e1] at g1
    exact ⟨x, y, by rw [h.S]; exact e1, e2, g1, g2⟩
  have hN : ∀ (i k : Nat), ks[i]? = some k → ∃ x y, look c.S k = some x ∧ renBlk nm x = some y ∧ nw[i]? = some y := by
    intro i k hk
    obtain ⟨y, g1, g2⟩ := n2 i k hk
    unfold renAt at g1
    split at g1
    · rename_i x hx; exact ⟨x, y, by rw [h.S]; exact hx, g1, g2⟩
    · cases g1
  let R' : Nat → Nat := fun e => if newBase ≤ e then (match ks[e - newBase]? with | some k => c.R k | none => 0) else c.R e
  let S' := outerSt o ++ withKeys newBase 0 nw
  let c' : Cx := { w := c.w, S := S', R := R', F := fOf X R' S' }
  have hlO : ∀ i y, o[i]? = some y → look S' (outBase + i) = some y := by
    intro i y hy
    show look (outerSt o ++ _) _ = _
    rw [look_app]
    have : look (outerSt o) (outBase + i) = some y := by
      show look (withKeys outBase 0 o) _ = _
      rw [look_withKeys, if_pos (by omega), show outBase + i - (outBase + 0) = i by omega]; exact hy
    rw [this]
  have hlN : ∀ i y, nw[i]? = some y → look S' (newBase + i) = some y := by
    intro i y hy
    show look (outerSt o ++ _) _ = _
    rw [look_app]
    have : look (outerSt o) (newBase + i) = none := by
      show look (withKeys outBase 0 o) _ = _
      rw [look_withKeys, if_pos (by unfold newBase outBase; omega)]
      exact List.getElem?_eq_none (by unfold newBase outBase; omega)
    rw [this, look_withKeys, if_pos (by omega), show newBase + i - (newBase + 0) = i by omega]; exact hy
  have hRO : ∀ i, i < out.length → R' (outBase + i) = c.R (outBase + i) := by
    intro i hi
    show (if newBase ≤ outBase + i then _ else _) = _
    rw [if_neg (by unfold newBase outBase; omega)]
  have hRN : ∀ (i k : Nat), ks[i]? = some k → R' (newBase + i) = c.R k := by
    intro i k hk
    show (if newBase ≤ newBase + i then _ else _) = _
    rw [if_pos (by omega), show newBase + i - newBase = i by omega, hk]
  have hcl : ∀ e y, look S' e = some y → ∃ k x, look c.S k = some x ∧ renBlk nm x = some y ∧ R' e = c.R k ∧ ((e = k ∧ outBase ≤ e ∧ e < newBase) ∨ (newBase ≤ e ∧ ks[e - newBase]? = some k ∧ k < outBase)) := by
    intro e y he
    have he' : look (withKeys outBase 0 o ++ withKeys newBase 0 nw) e = some y := he
    rw [look_app, look_withKeys, look_withKeys] at he'
    split at he'
    · rename_i x hx
      cases he'
      split at hx
      · rename_i hle
        have hlt := (List.getElem?_eq_some_iff.1 hx).1
        obtain ⟨x0, y0, g1, g2, g3, g4⟩ := hO (e - (outBase + 0)) (by omega)
        have : y0 = y := Option.some.inj (g4.symm.trans hx)
        subst this
        have ee : outBase + (e - (outBase + 0)) = e := by omega
        have hR := hRO (e - (outBase + 0)) (by omega)
        rw [ee] at g1 hR
        exact ⟨e, x0, g1, g3, hR, .inl ⟨rfl, by omega, by unfold newBase outBase at *; omega⟩⟩
      · cases hx
    · split at he'
      · rename_i hle
        have hlt := (List.getElem?_eq_some_iff.1 he').1
        have hk : ks[e - (newBase + 0)]? = some (ks[e - (newBase + 0)]'(by omega)) := List.getElem?_eq_getElem _
        obtain ⟨x0, y0, g1, g2, g3⟩ := hN _ _ hk
        have : y0 = y := Option.some.inj (g3.symm.trans he')
        subst this
        have ee : newBase + (e - (newBase + 0)) = e := by omega
        have hR := hRN _ _ hk
        rw [ee] at hR
        exact ⟨_, x0, g1, g2, hR, .inr ⟨by omega, hk, hko _ (List.mem_of_getElem? hk)⟩⟩
      · cases he'
  have hFsub : ∀ b, c'.F b → c.F b := by
    rintro b (hx | ⟨e, y, g1, g2, g3, g4⟩)
    · exact (h.wr.hF b).2 (.inl hx)
    · obtain ⟨k, x, k1, k2, k3, _⟩ := hcl e y g1
      obtain ⟨_, q2, q3, _⟩ := renBlk_some k2
      exact (h.wr.hF b).2 (.inr ⟨k, x, k1, by rw [← q2]; exact g2, by rw [← q3]; exact g3, by rw [← k3]; exact g4⟩)
  have hren : Ren c c' nm := by
    refine ⟨Nat.le_refl _, fun b _ hf hf' => hf (hFsub b hf'), fun _ _ _ => rfl, fun b w nn hh => ?_⟩
    rw [← hnm] at hh
    dsimp only at hh
    split at hh
    · rename_i x hx
      obtain ⟨k1, k2, k3⟩ := ldBlk_some hx
      have fin : ∀ e y, look S' e = some y → renBlk nm x = some y → R' e = c.R b → NmOk c c' b w (.key e 0) := by
        intro e y g1 g2 g3
        obtain ⟨q1, q2, q3, q4, q5, q6⟩ := renBlk_some g2
        refine ⟨x, by rw [h.S]; exact k1, k2, y, g1, Nat.zero_le _, fun _ _ => ⟨q2, g3, q4, fun hrow => by rw [q5 hrow], fun cells t fr hc => ⟨cells, t, fr, ?_, rfl⟩⟩⟩
        show c.w.heap[R' e]? = _
        rw [g3]; exact hc
      split at hh
      · rename_i hle
        split at hh
        case isFalse => cases hh
        rename_i hlt0
        cases hh
        have hlt : b - outBase < out.length := by omega
        obtain ⟨x0, y0, g1, g2, g3, g4⟩ := hO (b - outBase) hlt
        have ee : outBase + (b - outBase) = b := by omega
        have hl := hlO _ _ g4
        have hR := hRO _ hlt
        rw [ee] at g1 hl hR
        have : x0 = x := by rw [h.S] at g1; exact Option.some.inj (g1.symm.trans k1)
        subst this
        exact fin b y0 hl g3 hR
      · split at hh
        · rename_i i hi
          cases hh
          obtain ⟨_, hi2⟩ := idx_some hi
          have hi2' : ks[i]? = some b := by simpa using hi2
          obtain ⟨x0, y0, g1, g2, g3⟩ := hN i b hi2'
          have : x0 = x := by rw [h.S] at g1; exact Option.some.inj (g1.symm.trans k1)
          subst this
          exact fin _ y0 (hlN _ _ g3) g2 (hRN _ _ hi2')
        · cases hh
    · cases hh
  refine ⟨rfl, c', rfl, rfl, ?_, ?_, renT_ok hren hv hres⟩
  · refine ⟨h.wr.size, h.wr.kept, h.wr.os, h.wr.out, h.wr.xs, ?_, ?_, ?_, ?_, fun _ => Iff.rfl⟩
    · intro e y g1 g2
      obtain ⟨k, x, k1, k2, k3, _⟩ := hcl e y g1
      obtain ⟨_, q2, q3, _⟩ := renBlk_some k2
      obtain ⟨j1, j2⟩ := h.wr.own k x k1 (by rw [← q2]; exact g2)
      show (_ → _ ≤ R' e ∨ G (R' e)) ∧ ¬ X (R' e)
      rw [k3]
      exact ⟨fun hf => j1 (by rw [← q3]; exact hf), j2⟩
    · intro e y g1 g2
      obtain ⟨k, x, k1, k2, k3, _⟩ := hcl e y g1
      obtain ⟨_, q2, q3, _⟩ := renBlk_some k2
      show _ ≤ R' e ∨ Lo (R' e)
      rw [k3]
      exact h.wr.low k x k1 (by rw [← q2]; exact g2)
    · intro e e' y y' g1 g2 g1' g2' ee
      obtain ⟨k, x, k1, k2, k3, k4⟩ := hcl e y g1
      obtain ⟨k', x', k1', k2', k3', k4'⟩ := hcl e' y' g1'
      have ee' : R' e = R' e' := ee
      have hk : k = k' := h.wr.inj k k' x x' k1 (by rw [← (renBlk_some k2).2.1]; exact g2) k1' (by rw [← (renBlk_some k2').2.1]; exact g2') (by rw [← k3, ← k3', ee'])
      subst hk
      rcases k4 with ⟨m1, m2, m3⟩ | ⟨m1, m2, m3⟩
      · rcases k4' with ⟨m1', m2', m3'⟩ | ⟨m1', m2', m3'⟩
        · omega
        · omega
      · rcases k4' with ⟨m1', m2', m3'⟩ | ⟨m1', m2', m3'⟩
        · omega
        · have := nodup_get hnd m2 m2'
          omega
    · intro e y g1 g2
      obtain ⟨k, x, k1, k2, k3, _⟩ := hcl e y g1
      obtain ⟨q1, q2, q3, q4, q5, q6⟩ := renBlk_some k2
      obtain ⟨cells, t, lo, hi, j1, j2, j3, j4⟩ := (h.wr.blk k x k1 (by rw [← q2]; exact g2)).here
      refine ⟨cells, t, lo, hi, by show c.w.heap[R' e]? = _; rw [k3]; exact j1, j2, fun hk => ?_, fun hk => ?_⟩
      · exact mapO_renD_content (fun a a' v _ _ hv hr => renD_ok hren hv hr) (q6 (q2 ▸ hk)) (j3 (q2 ▸ hk))
      · obtain ⟨j5, j6⟩ := j4 (q2 ▸ hk)
        rw [q4, q5 (q2 ▸ hk)]
        exact ⟨j5, fun k a hk => let ⟨v, v1, v2⟩ := j6 k a hk; ⟨v, v1, hren.pv v2⟩⟩
  · refine ⟨h.le.size, fun b hb hf hf' => h.le.hF b hb hf (hFsub b hf'), h.le.hw, fun b x0 hx0 => ?_⟩
    have hb : b = outBase + (b - outBase) ∧ b - outBase < out.length ∧ x0.v = 0 := by
      rw [hc0] at hx0
      have hx : look (withKeys outBase 0 out) b = some x0 := hx0
      rw [look_withKeys] at hx
      split at hx
      · have hlt := (List.getElem?_eq_some_iff.1 hx).1
        exact ⟨by omega, by omega, hout x0 (List.mem_of_getElem? hx)⟩
      · cases hx
    obtain ⟨eb, hlt, hxv⟩ := hb
    obtain ⟨x, y, g1, g2, g3, g4⟩ := hO _ hlt
    have hl := hlO _ _ g4
    have hR := hRO _ hlt
    rw [← eb] at g1 hl hR
    obtain ⟨x', f1, f2, f3⟩ := h.le.hS b x0 hx0
    have : x' = x := Option.some.inj (f1.symm.trans g1)
    subst this
    obtain ⟨q1, q2, q3, q4, q5, q6⟩ := renBlk_some g3
    refine ⟨y, hl, by omega, fun _ hd => ?_⟩
    obtain ⟨k1, k2, k3, k4, k5, k6⟩ := f3 (by omega) (by rw [← q2]; exact hd)
    refine ⟨k1.trans q2.symm, hR.trans k2, q4.trans k3, fun hrow => ?_, fun hf => by rw [q3]; exact k5 hf, fun cells t fr hc => ?_⟩
    · rw [q5 (by rw [← k1]; exact hrow)]; exact k4 hrow
    · show ∃ cells' t' fr', c.w.heap[R' b]? = _ ∧ _
      rw [hR]; exact k6 cells t fr hc

end
end Go.Ab
