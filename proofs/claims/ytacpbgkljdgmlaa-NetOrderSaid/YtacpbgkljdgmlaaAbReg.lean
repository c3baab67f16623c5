/- Regions whose order is drawn: the test. -/
import Derived.Test.YtacpbgkljdgmlaaAbSched
set_option linter.unusedVariables false
set_option linter.unusedSimpArgs false
namespace Go.Ab
open Go

section
variable {P : Program}

theorem valueOp_eff {op : Op} (h : valueOp op = true) : effOp op = false := by
  cases op <;> first | rfl | cases h

theorem valueOp_rd {cfg : Cfg} {st : St} {o : Oper} (h : valueOp o.op = true) : readsK cfg st o = [] := by
  obtain ⟨dst, op, type, pos, after, guard⟩ := o
  cases op <;> first | rfl | cases h

theorem eff_ds {cfg : Cfg} {callF : CallF} {st : St} {o : Oper} {v : AV} {ds : List (Nat × Blk)} (h : effOp o.op = false) (hr : aOp P cfg callF st o = some (.val v ds)) : ds = [] := by
  have hp : ∀ {x : Option AV}, pv x = some (.val v ds) → ds = [] := fun hx => by
    obtain ⟨_, _, e⟩ := pv_some hx
    injection e
  obtain ⟨dst, op, type, pos, after, guard⟩ := o
  cases op <;> first | cases h | skip
  all_goals simp only [aOp] at hr
  all_goals try (cases hr; done)
  all_goals try exact hp hr
  case pick c a b =>
    split at hr
    · exact hp hr
    · cases hr
  case build t ps =>
    unfold aBuild at hr
    (repeat' split at hr) <;> first | cases hr | skip
    all_goals rfl
  case nilCheck x =>
    split at hr
    · split at hr
      · exact hp hr
      · cases hr
    · exact hp hr
    · exact hp hr
    · cases hr
  case binOp op t x y _ =>
    split at hr
    · exact hp hr
    · exact hp hr
  case makeInterface t x =>
    split at hr
    · cases hr
    · split at hr
      · exact hp hr
      · cases hr
    · cases hr
  case makeFunc fn first captured =>
    cases fn <;> simp only at hr <;> try (cases hr; done)
    split at hr
    · exact hp hr
    · cases hr
  case extract t i =>
    split at hr
    · exact hp hr
    · cases hr
  case panic x =>
    split at hr
    · split at hr <;> cases hr
    · cases hr
  case defer cl =>
    obtain ⟨callee, args, argTypes⟩ := cl
    cases callee <;> simp only at hr <;> first | (cases hr; done) | (split at hr <;> cases hr)
  case call cl =>
    obtain ⟨callee, args, argTypes⟩ := cl
    cases callee with
    | value f => cases h
    | invoke r m => cases h
    | builtin b =>
      cases b <;> first | cases h | skip
      all_goals simp only [aBuiltin] at hr
      all_goals (repeat' split at hr)
      all_goals first | cases hr | skip
      all_goals rfl

theorem keys_iff {ds : List (Nat × Blk)} {b : Nat} : look ds b ≠ none ↔ b ∈ keysOf ds := by
  constructor
  · intro h
    cases hl : look ds b with
    | none => exact absurd hl h
    | some x => exact mem_keys_of_look hl
  · intro h
    obtain ⟨x, hx⟩ := look_of_mem_keys h
    rw [hx]; simp

theorem apart_spec' {a b : List Nat} (h : apartKeys a b = true) {x : Nat} (hx : x ∈ a) : x ∉ b := by
  have := List.all_eq_true.1 h x hx
  simpa using this

theorem indep_of {cfg : Cfg} {callF : CallF} {ops : Array Oper} {dyn : List (Nat × Nat)} {r r' : Rec} (h : pairOk dyn ops r.i r'.i r.o r'.o = true) (h1 : StepR P cfg callF ops r) (h2 : StepR P cfg callF ops r')
    (hd : (r.i, r'.i) ∈ dyn → apartKeys (keysOf r.ds) (r'.rd ++ keysOf r'.ds) = true ∧ apartKeys (keysOf r'.ds) (r.rd ++ keysOf r.ds) = true) : Indep ops r r' := by
  simp only [pairOk, Bool.and_eq_true, Bool.or_eq_true, Bool.not_eq_true'] at h
  obtain ⟨hap, h⟩ := h
  have noeff : ∀ {r : Rec}, StepR P cfg callF ops r → effOp r.o.op = false → r.ds = [] := by
    rintro r (⟨_, _, e, _⟩ | ⟨_, e, _⟩) hh
    · exact e
    · exact eff_ds hh e
  have nord : ∀ {r : Rec}, StepR P cfg callF ops r → valueOp r.o.op = true → r.rd = [] := by
    rintro r (⟨_, _, _, e⟩ | ⟨_, _, e⟩) hh
    · exact e
    · rw [e]; exact valueOp_rd hh
  refine ⟨hap, ?_⟩
  rcases h with ⟨ha, hb⟩ | hdy
  · constructor
    · intro b hbn
      rcases ha with ha | ha
      · rw [noeff h1 ha] at hbn; exact absurd rfl hbn
      · rw [nord h2 ha, noeff h2 (valueOp_eff ha)]
        exact ⟨by simp, rfl⟩
    · intro b hbn
      rcases hb with hb | hb
      · rw [noeff h2 hb] at hbn; exact absurd rfl hbn
      · rw [nord h1 hb, noeff h1 (valueOp_eff hb)]
        exact ⟨by simp, rfl⟩
  · obtain ⟨g1, g2⟩ := hd (by simpa using hdy)
    constructor
    · intro b hbn
      have := apart_spec' g1 (keys_iff.1 hbn)
      rw [List.mem_append] at this
      refine ⟨fun h => this (.inl h), ?_⟩
      cases hl : look r'.ds b with
      | none => rfl
      | some x => exact absurd (.inr (keys_iff.1 (by rw [hl]; simp))) this
    · intro b hbn
      have := apart_spec' g2 (keys_iff.1 hbn)
      rw [List.mem_append] at this
      refine ⟨fun h => this (.inl h), ?_⟩
      cases hl : look r.ds b with
      | none => rfl
      | some x => exact absurd (.inr (keys_iff.1 (by rw [hl]; simp))) this

theorem draw_ok (hm : P.follows .mixedOrders = true) {cfg : Cfg} {callF : CallF} (hF : FnOk P callF) : DrawOk P cfg callF (fun f id ops => regOk (cfg.dyn f id) ops) := by
  intro f n id ops hreg w0 G X Lo c0 c st st' a e h hs
  have key : ∀ (trk : Bool) (t : Trk), aOps P cfg callF n ops trk 0 ops.toList st [] = some (.norm, st', t) → st'.df.length = st.df.length → ((cfg.dyn f id ≠ [] → trk = true ∧ dynOk t (cfg.dyn f id) = true)) →
      (Code.region id ops true).wp P (Post w0 G X Lo n c0 .norm st') a c.w := by
    intro trk t h1 h2 h3
    obtain ⟨T, hT, _, hTt⟩ := runs_of ops.toList 0 st st' [] t h1 h2 (fun k _ => rfl)
    obtain ⟨hR1, _⟩ := Runs.at hT (fun j => by simp)
    have hr := fun j (hj : j < ops.size) => List.all_eq_true.1 hreg j (List.mem_range.2 hj)
    refine wp_region_any hm ?_
    obtain ⟨g1, g2⟩ := hs.wr.same { c.w with drawn := c.w.drawn + 1 } rfl rfl rfl
    refine any_ok hF hT ?_ ?_ ops.size _ a _ (by simp) ?_ ?_ ⟨{ c with w := { c.w with drawn := c.w.drawn + 1 } }, st, rfl, ⟨hs.S, g1, hs.le.trans g2, hs.fr.mono g2, hs.df.mono g2⟩, ?_, ?_, rfl⟩
    · intro r hr1 r' hr2 hlt
      obtain ⟨_, q1, q2, _⟩ := hR1 r hr1
      obtain ⟨_, q1', q2', _⟩ := hR1 r' hr2
      have hj := (Array.getElem?_eq_some_iff.1 q1').1
      have h4 := hr r'.i hj
      rw [q1'] at h4
      simp only [Bool.and_eq_true] at h4
      have h5 := List.all_eq_true.1 h4.2 r.i (List.mem_range.2 hlt)
      rw [q1] at h5
      simp only [Bool.and_eq_true, Bool.or_eq_true] at h5
      refine ⟨?_, ?_⟩
      · rcases h5.1 with h | h
        · left; simpa using h
        · right; simpa using h
      · rcases h5.2 with h | h
        · left; simpa using h
        · right
          refine indep_of h q2 q2' (fun hd => ?_)
          obtain ⟨htr, hdy⟩ := h3 (fun e => by rw [e] at hd; simp at hd)
          have := List.all_eq_true.1 hdy _ hd
          simp only at this
          rw [hTt htr r hr1, hTt htr r' hr2] at this
          simpa using this
    · intro j o ho e he hb
      have hj := (Array.getElem?_eq_some_iff.1 ho).1
      have h4 := hr j hj
      rw [ho] at h4
      simp only [Bool.and_eq_true] at h4
      have h5 := List.all_eq_true.1 h4.1 e he
      rw [hb] at h5
      simpa using h5
    · intro j o ho hj
      simp [Array.getD] at hj
    · have : ∀ m, cnt (fun k => (Array.replicate ops.size false).getD k false) m ≤ m := by
        intro m
        induction m with
        | zero => exact Nat.le_refl _
        | succ m ih => simp only [cnt]; split <;> omega
      exact this _
    · intro b
      rw [lookB_none]
      intro r _ hd
      simp [Array.getD] at hd
    · intro b
      rw [lookF_none]
      intro r _ hd
      simp [Array.getD] at hd
  have keyP : aRegP P cfg callF (cfg.dyn f id) n ops st = some (e, st') → (Code.region id ops true).wp P (Post w0 G X Lo n c0 e st') a c.w := by
    intro h
    unfold aRegP at h
    split at h
    case h_2 => cases h
    rename_i p stp h1
    split at h
    case h_2 => cases h
    rename_i op hop
    split at h
    case isFalse => cases h
    rename_i hpo
    obtain ⟨hpo, hdfl⟩ := hpo
    simp only at h
    split at h
    case h_2 => cases h
    rename_i hwq
    split at h
    case h_2 => cases h
    rename_i v ds hpan
    cases h
    obtain ⟨_, hplt, T, hT⟩ := runsP_of _ _ _ _ _ h1
    rw [Nat.sub_zero] at hT
    have hplt : p < ops.size := by simpa using hplt
    have hlen : (ops.toList.take p).length = p := by simp; omega
    obtain ⟨hR1, _⟩ := RunsP.at hT (fun j hj => by
      rw [hlen] at hj
      rw [List.getElem?_take, if_pos hj]; simp)
    rw [hlen] at hR1
    have hr := fun j (hj : j < ops.size) => List.all_eq_true.1 hreg j (List.mem_range.2 hj)
    simp only [panOk, Bool.and_eq_true] at hpo
    obtain ⟨⟨hp1, hp2⟩, hp3⟩ := hpo
    refine wp_region_any hm ?_
    obtain ⟨g1, g2⟩ := hs.wr.same { c.w with drawn := c.w.drawn + 1 } rfl rfl rfl
    refine any_pan (stq := { stp with fr := stp.fr.filter fun x => knownAt ops p x.1 }) hF hop hT ?_ ?_ ?_ ?_ rfl ?_ rfl hwq hpan ops.size (Array.replicate ops.size false) a _ (by simp) ?_ (by simp [Array.getD]) ?_ ⟨{ c with w := { c.w with drawn := c.w.drawn + 1 } }, st, rfl, ⟨hs.S, g1, hs.le.trans g2, hs.fr.mono g2, hs.df.mono g2⟩, ?_, ?_, rfl⟩
    · intro r hr1 r' hr2 hlt
      obtain ⟨_, _, q1, q2, _⟩ := hR1 r hr1
      obtain ⟨_, q0', q1', q2', _⟩ := hR1 r' hr2
      have hj := (Array.getElem?_eq_some_iff.1 q1').1
      have h4 := hr r'.i hj
      rw [q1'] at h4
      simp only [Bool.and_eq_true] at h4
      have h5 := List.all_eq_true.1 h4.2 r.i (List.mem_range.2 hlt)
      rw [q1] at h5
      simp only [Bool.and_eq_true, Bool.or_eq_true] at h5
      refine ⟨?_, ?_⟩
      · rcases h5.1 with h | h
        · left; simpa using h
        · right; simpa using h
      · rcases h5.2 with h | h
        · left; simpa using h
        · right
          refine indep_of h q2 q2' (fun hd => ?_)
          exfalso
          have := List.all_eq_true.1 hp1 _ hd
          simp only [decide_eq_true_eq] at this
          omega
    · intro j o ho e he hb
      have hj := (Array.getElem?_eq_some_iff.1 ho).1
      have h4 := hr j hj
      rw [ho] at h4
      simp only [Bool.and_eq_true] at h4
      have h5 := List.all_eq_true.1 h4.1 e he
      rw [hb] at h5
      simpa using h5
    · intro r hr1
      obtain ⟨_, q0, q1, q2, _⟩ := hR1 r hr1
      have h4 := List.all_eq_true.1 hp2 r.i (List.mem_range.2 (by omega))
      rw [q1] at h4
      simp only [Bool.or_eq_true] at h4
      rcases h4 with h | h
      · left; simpa using h
      · right
        have he : effOp r.o.op = false := by simpa using h
        rcases q2 with ⟨_, _, e, _⟩ | ⟨_, e, _⟩
        · exact e
        · exact eff_ds he e
    · intro j hpj hj
      have h4 := List.all_eq_true.1 hp3 j (List.mem_range.2 hj)
      simp only [Bool.or_eq_true, decide_eq_true_eq] at h4
      rcases h4 with h | h
      · omega
      · simpa using h
    · intro t u ht
      obtain ⟨hk, h2⟩ := look_filter (q := knownAt ops p) ht
      refine ⟨h2, fun r hr1 hd => ?_⟩
      obtain ⟨_, q0, q1, _⟩ := hR1 r hr1
      have hj := (Array.getElem?_eq_some_iff.1 q1).1
      have h4 := List.all_eq_true.1 hk r.i (List.mem_range.2 hj)
      rw [q1] at h4
      simp only [Bool.or_eq_true] at h4
      rcases h4 with h | h
      · rw [hd] at h; simp at h
      · simpa using h
    · intro j o ho hj
      simp [Array.getD] at hj
    · have : ∀ m, cnt (fun k => (Array.replicate ops.size false).getD k false) m ≤ m := by
        intro m
        induction m with
        | zero => exact Nat.le_refl _
        | succ m ih => simp only [cnt]; split <;> omega
      exact this _
    · intro b
      rw [lookB_none]
      intro r _ hd
      simp [Array.getD] at hd
    · intro b
      rw [lookF_none]
      intro r _ hd
      simp [Array.getD] at hd
  unfold aRegion at h
  rw [if_pos rfl] at h
  split at h
  · rename_i hdyn
    split at h
    · rename_i st1 t h1
      split at h
      · rename_i h2
        cases h
        exact key false t h1 h2 (fun hne => absurd hdyn hne)
      · cases h
    · exact keyP (by rw [hdyn]; exact h)
    · cases h
  · rename_i p ps hdyn
    split at h
    · rename_i st1 t h1
      split at h
      · rename_i h2
        cases h
        exact key true t h1 h2.2 (fun _ => ⟨rfl, by rw [hdyn]; exact h2.1⟩)
      · cases h
    · exact keyP (by rw [hdyn]; exact h)
    · cases h

/-- The tests on a program, all of them: these functions may be entered. -/
def fnOkB (P : Program) (cfg : Cfg) (f : FuncId) : Bool :=
  match P.funcs[f]? with
  | some fn => match fn.body with
    | some b => (fn.name == "runtime.NumGoroutine") == false && codeOk (fun id ops => regOk (cfg.dyn f id) ops) b
    | none => false
  | none => false

theorem cfg_ok (hm : P.follows .mixedOrders = true) {cfg : Cfg} {l : List FuncId} (hl : ∀ f, cfg.isF f = true → f ∈ l) (h : l.all (fnOkB P cfg) = true) (hp : ∀ f g, cfg.prim f = some g → PrimOk P f g) :
    CfgOk P cfg (fun f id ops => regOk (cfg.dyn f id) ops) := by
  refine ⟨fun f hf => ?_, fun callF hF => draw_ok hm hF, hp⟩
  have := List.all_eq_true.1 h f (hl f hf)
  unfold fnOkB at this
  split at this
  · rename_i fn hfn
    split at this
    · rename_i b hb
      simp only [Bool.and_eq_true] at this
      exact ⟨fn, b, hfn, hb, by simpa using this.1, this.2⟩
    · cases this
  · cases this

end
end Go.Ab
