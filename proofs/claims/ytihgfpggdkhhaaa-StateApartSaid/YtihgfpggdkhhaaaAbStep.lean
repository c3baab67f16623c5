/- One operation. -/
import Derived.Test.YtihgfpggdkhhaaaAbCall2
set_option linter.unusedVariables false
set_option linter.unusedSimpArgs false
namespace Go.Ab
open Go

section
variable {P : Program} {w0 : World} {G X Lo : Nat → Prop} {c : Cx}

/-- It can be called. -/
def Callable (P : Program) (f : FuncId) : Prop := ∃ fn b, P.funcs[f]? = some fn ∧ fn.body = some b ∧ (fn.name == "runtime.NumGoroutine") = false

def CallPost (w0 : World) (G X Lo : Nat → Prop) (c : Cx) (r : Ret) (e : Ending) (w' : World) : Prop :=
  ∃ c' v, c'.w = w' ∧ c'.S = outerSt r.out ++ withKeys newBase 0 r.new ∧ WR w0 G X Lo c' ∧ Le c c' ∧ V c' r.res v ∧ e = if r.pan = true then .panicked [{ v := v, recovered := false }] else .returned v

/-- What the evaluator says of a call is so. -/
structure FnOk (P : Program) (callF : CallF) : Prop where
  there : ∀ {f args out r}, callF f args out = some r → Callable P f
  ok : ∀ {f args out r}, callF f args out = some r → ∀ {c w0 G X Lo} {vs : List Value}, c.S = outerSt out → (∀ x ∈ out, x.v = 0) → WR w0 G X Lo c → VL c args vs →
    Calls P f vs.toArray c.w (CallPost w0 G X Lo c r)

def resOf (pan : Bool) (a : AV) (ds : List (Nat × Blk)) : Res := if pan = true then .pan a ds else .val a ds
def endOf (pan : Bool) (v : Value) : Ending := if pan = true then .panicked [{ v := v, recovered := false }] else .returned v

theorem call_split (h : WR w0 G X Lo c) {callF : CallF} {cfg : Cfg} {d : Option Tmp} {f : FuncId} {args : List AV} {vs : List Value} (hv : VL c args vs) {res : Res}
    (hr : aCall cfg callF c.S d f args = some res) :
    ∃ (args2 : List AV) (out : List Blk) (r : Ret) (cc : Cx) (w0' : World) (G' X' Lo' : Nat → Prop), callF f args2 out = some r ∧ cc.w = c.w ∧ cc.S = outerSt out ∧ (∀ x ∈ out, x.v = 0) ∧ WR w0' G' X' Lo' cc ∧ VL cc args2 vs ∧
      ∀ (c' : Cx) (v : Value), c'.S = outerSt r.out ++ withKeys newBase 0 r.new → WR w0' G' X' Lo' c' → Le cc c' → V c' r.res v →
        ∃ c1 a ds, res = resOf r.pan a ds ∧ c1.w = c'.w ∧ c1.S = ds ++ c.S ∧ WR w0 G X Lo c1 ∧ Le c c1 ∧ V c1 a v := by
  unfold aCall at hr
  split at hr
  · cases hr
  rename_i args2 ks out hin
  split at hr
  · cases hr
  rename_i r hcall
  obtain ⟨cF, cc, E, hv2⟩ := enter_ok h hv hin
  have hout : ∀ x ∈ out, x.v = 0 := by
    intro x hx
    obtain ⟨i, hi⟩ := List.getElem?_of_mem hx
    have hlt := (List.getElem?_eq_some_iff.1 hi).1
    obtain ⟨x0, y, _, g2, g3, _⟩ := E.blk i (ks[i]'(by rw [← E.len]; exact hlt)) (List.getElem?_eq_getElem _)
    have : y = x := Option.some.inj (g2.symm.trans hi)
    subst this
    exact g3
  refine ⟨args2, out, r, cc, _, _, _, _, hcall, E.w, E.S, hout, E.wr, hv2, ?_⟩
  intro c' v h2 h3 h4 h5
  obtain ⟨c1, a, ds, g1, g2, g3, g4, g5, g6⟩ := back_ok h E h2 h3 h4 h5 hr
  exact ⟨c1, a, ds, g1, g2, g3, g4, g5, g6⟩

theorem call_ok {callF : CallF} (hF : FnOk P callF) (h : WR w0 G X Lo c) {cfg : Cfg} {d : Option Tmp} {f : FuncId} {args : List AV} {vs : List Value} (hv : VL c args vs) {res : Res}
    (hr : aCall cfg callF c.S d f args = some res) :
    Callable P f ∧ Calls P f vs.toArray c.w fun e w' => ∃ pan a ds u c1, res = resOf pan a ds ∧ e = endOf pan u ∧ c1.w = w' ∧ c1.S = ds ++ c.S ∧ WR w0 G X Lo c1 ∧ Le c c1 ∧ V c1 a u := by
  obtain ⟨args2, out, r, cc, w0', G', X', Lo', hcall, k1, k2, k3, k4, k5, k6⟩ := call_split h hv hr
  refine ⟨hF.there hcall, ?_⟩
  have := hF.ok hcall k2 k3 k4 k5
  rw [k1] at this
  refine this.mono ?_
  rintro e w' ⟨c', v, h1, h2, h3, h4, h5, h6⟩
  obtain ⟨c1, a, ds, g1, g2, g3, g4, g5, g6⟩ := k6 c' v h2 h3 h4 h5
  exact ⟨r.pan, a, ds, v, c1, g1, h6, by rw [g2, h1], g3, g4, g5, g6⟩

/-- The temporaries. -/
structure Fr (c : Cx) (n : Nat) (fr : List (Nat × AV)) (tmps : Array Value) : Prop where
  size : tmps.size = n
  lt : ∀ t v, look fr t = some v → t < n
  rel : ∀ t v, look fr t = some v → V c v (tmps.getD t Go.undef)

theorem Fr.mono {c c' : Cx} (L : Le c c') {n : Nat} {fr : List (Nat × AV)} {tmps : Array Value} (h : Fr c n fr tmps) : Fr c' n fr tmps :=
  ⟨h.size, h.lt, fun t v ht => (h.rel t v ht).mono L⟩

theorem Fr.put {n : Nat} {fr : List (Nat × AV)} {a : Act} (h : Fr c n fr a.tmps) {t : Tmp} (ht : t < n) {v : AV} {u : Value} (hv : V c v u) : Fr c n ((t, v) :: fr) (a.put (some t) u).tmps := by
  refine ⟨by simp [Act.put, h.size], fun i x hi => ?_, fun i x hi => ?_⟩
  · rw [look_cons] at hi
    split at hi
    · rename_i e; subst e; exact ht
    · exact h.lt i x hi
  · rw [look_cons] at hi
    split at hi
    · rename_i e
      subst e
      cases hi
      have : (a.put (some t) u).tmps.getD t Go.undef = u := by
        have := h.size
        simp [Act.put, Array.getD, this, ht]
      rw [this]; exact hv
    · rename_i e
      have : (a.put (some t) u).tmps.getD i Go.undef = a.tmps.getD i Go.undef := by
        simp [Act.put, Array.getElem?_setIfInBounds_ne e]
      rw [this]; exact h.rel i x hi

theorem ev_ok {n : Nat} {st : St} {a : Act} (h : Fr c n st.fr a.tmps) (x : Operand) : V c (st.ev x) (a.eval x) := by
  cases x with
  | tmp t =>
    show V c ((look st.fr t).getD .undef) (a.tmps.getD t Go.undef)
    cases hl : look st.fr t with
    | none => exact .pure (.undef _)
    | some v => exact h.rel t v hl
  | const v => exact .pure (ofCell_V v)
  | func f => exact .pure (.fn f)
  | global g => exact .pure (.undef _)

theorem V_simpleC {a : AV} {v : Value} (hs : a.simpleC = true) (h : V c a v) : PV c.w c.F a v := by
  cases h with
  | pure h => exact h
  | _ => cases hs

theorem V_simple {a : AV} {v : Value} (hs : a.simple = true) (h : V c a v) : PV c.w c.F a v := by
  cases h with
  | pure h => exact h
  | agg cs vs hl hc h => exact .agg cs vs hl hc (fun i a u h1 h2 => V_simpleC (List.all_eq_true.1 hs a (List.mem_of_getElem? h1)) (h i a u h1 h2))
  | _ => cases hs

/-- What an operation does, seen from its end. -/
def OpOk (P : Program) (w0 : World) (G X Lo : Nat → Prop) (c : Cx) (o : Oper) (a : Act) : Res → Prop
  | .val v ds => ∀ (next : Act → World → Prop) (Q : Exit → Act → World → Prop),
      (∀ u c1, c1.S = ds ++ c.S → WR w0 G X Lo c1 → Le c c1 → V c1 v u → next (a.put o.dst u) c1.w) → o.wp P a c.w next Q
  | .pan v ds => ∀ (next : Act → World → Prop) (Q : Exit → Act → World → Prop),
      (∀ u c1, c1.S = ds ++ c.S → WR w0 G X Lo c1 → Le c c1 → V c1 v u → Q (.panic [{ v := u, recovered := false }]) a c1.w) → o.wp P a c.w next Q
  | .dfr f args => ∀ (next : Act → World → Prop) (Q : Exit → Act → World → Prop),
      (∀ fv (vs : List Value) fn cap (first : Array Value), V c f fv → VL c args vs → fv = .func fn first cap → next ({ a with defers := { target := .fn fn cap, args := first ++ vs.toArray } :: a.defers }.put o.dst Go.undef) c.w) → o.wp P a c.w next Q

theorem OpOk.of_run {o : Oper} {a : Act} {v : AV} {u : Value} (h : WR w0 G X Lo c) (hr : (execOp a.eval o).run P c.w = .ok (.value u) c.w) (hv : V c v u) : OpOk P w0 G X Lo c o a (.val v []) := by
  intro next Q hn
  unfold Oper.wp
  rw [hr, Oper.upon_value]
  exact hn u c rfl h (Le.refl c) hv

theorem OpOk.of_mok {o : Oper} {a : Act} {v : AV} {ds : List (Nat × Blk)} {s : Sem Value} (hs : execOp a.eval o = (do pure (.value (← s)))) (h : MOk P w0 G X Lo c s v ds) : OpOk P w0 G X Lo c o a (.val v ds) := by
  obtain ⟨u, c1, h1, h2, h3, h4, h5⟩ := h
  intro next Q hn
  unfold Oper.wp
  rw [hs]
  simp only [Sem.run_bind, h1, Result.andThen_ok, Sem.run_pure, Oper.upon_value]
  exact hn u c1 h2 h3 h4 h5

theorem OpOk.of_pure {o : Oper} {a : Act} {v : AV} {s : Sem Value} (h : WR w0 G X Lo c) (hs : execOp a.eval o = (do pure (.value (← s)))) (hr : ∃ u, s.run P c.w = .ok u c.w ∧ V c v u) : OpOk P w0 G X Lo c o a (.val v []) := by
  obtain ⟨u, h1, h2⟩ := hr
  exact OpOk.of_mok hs ⟨u, c, h1, rfl, h, Le.refl c, h2⟩

theorem pv_some {x : Option AV} {r : Res} (h : pv x = some r) : ∃ v, x = some v ∧ r = .val v [] := by
  unfold pv at h
  split at h
  · cases h; exact ⟨_, rfl, rfl⟩
  · cases h

theorem VL_map {n : Nat} {st : St} {a : Act} (h : Fr c n st.fr a.tmps) : ∀ (l : List Operand), VL c (l.map st.ev) (l.map a.eval)
  | [] => VL.nil
  | x :: l => VL.cons (ev_ok h x) (VL_map h l)

theorem OV_map {n : Nat} {st : St} {a : Act} (h : Fr c n st.fr a.tmps) (x : Option Operand) : OV c (x.map st.ev) (x.map a.eval) := by
  cases x with
  | none => exact .none
  | some x => exact .some (ev_ok h x)

theorem op_ok {callF : CallF} (hF : FnOk P callF) (h : WR w0 G X Lo c) {cfg : Cfg} {n : Nat} {st : St} (hS : c.S = st.bs) {a : Act} (hfr : Fr c n st.fr a.tmps) {o : Oper} {res : Res}
    (hr : aOp P cfg callF st o = some res) : OpOk P w0 G X Lo c o a res := by
  have ev := fun x => ev_ok hfr x
  obtain ⟨dst, op, type, pos, after, guard⟩ := o
  cases op <;> simp only [aOp] at hr <;> try (cases hr; done)
  case move x =>
    obtain ⟨v, h1, rfl⟩ := pv_some hr
    cases h1
    exact OpOk.of_run h rfl (ev x)
  case assign x =>
    obtain ⟨v, h1, rfl⟩ := pv_some hr
    cases h1
    exact OpOk.of_run h rfl (ev x)
  case pick q x y =>
    split at hr
    · rename_i t ht
      obtain ⟨v, h1, rfl⟩ := pv_some hr
      cases h1
      have hq := ev q
      rw [ht] at hq
      refine OpOk.of_run (u := if t then a.eval x else a.eval y) h (by simp [execOp, hq.bool_inv, asBool]) ?_
      cases t
      · exact ev y
      · exact ev x
    · cases hr
  case alloc t =>
    split at hr
    · rename_i z hz
      rw [← hS] at hr
      cases res with
      | val v ds => exact OpOk.of_mok rfl (alloc_ok h hz hr)
      | pan v ds => unfold newBox at hr; (repeat' split at hr) <;> cases hr
      | dfr f as => unfold newBox at hr; (repeat' split at hr) <;> cases hr
    · cases hr
  case box t x =>
    rw [← hS] at hr
    cases res with
    | val v ds => exact OpOk.of_mok rfl (box_ok h (ev x) hr t)
    | pan v ds => unfold newBox at hr; (repeat' split at hr) <;> cases hr
    | dfr f as => unfold newBox at hr; (repeat' split at hr) <;> cases hr
  case build t ps =>
    cases res with
    | val v ds =>
      obtain ⟨rfl, h1⟩ := build_ok c.w (fun x => ev x) hr
      exact OpOk.of_pure h rfl h1
    | pan v ds => unfold aBuild at hr; (repeat' split at hr) <;> cases hr
    | dfr f as => unfold aBuild at hr; (repeat' split at hr) <;> cases hr
  case buildSlice t len ps =>
    rw [← hS] at hr
    cases res with
    | val v ds => exact OpOk.of_mok rfl (buildSlice_ok h (fun x => ev x) hr)
    | pan v ds => unfold aBuildSlice newRow at hr; (repeat' split at hr) <;> cases hr
    | dfr f as => unfold aBuildSlice newRow at hr; (repeat' split at hr) <;> cases hr
  case load t x =>
    obtain ⟨v, h1, rfl⟩ := pv_some hr
    rw [← hS] at h1
    exact OpOk.of_pure h rfl (load_ok h (ev x) h1)
  case store t x y =>
    rw [← hS] at hr
    split at hr
    · rename_i ds hds
      cases hr
      obtain ⟨c1, g1, g2, g3, g4⟩ := store_ok h (ev x) (ev y) hds
      intro next Q hn
      unfold Oper.wp
      have : (execOp a.eval { dst := dst, op := .store t x y, type := type, pos := pos, after := after, guard := guard }).run P c.w = .ok .skip c1.w := by
        simp only [execOp, Sem.run_bind, g1, Result.andThen_ok, Sem.run_pure]
      rw [this, Oper.upon_skip]
      exact hn Go.undef c1 g2 g3 g4 (.pure .skp)
    · cases hr
  case nilCheck x =>
    have hx := ev x
    split at hr
    · rename_i b v i off he
      split at hr
      · rename_i p hp
        obtain ⟨v', h1, rfl⟩ := pv_some hr
        cases h1
        rw [he] at hx
        obtain ⟨cs, off'⟩ := p
        rw [← hS] at hp
        obtain ⟨B, O, e1, _⟩ := Lies.ptr_of hx hp
        refine OpOk.of_run (u := a.eval x) h ?_ hx
        simp [execOp, e1]
      · cases hr
    · rename_i e off he
      obtain ⟨v', h1, rfl⟩ := pv_some hr
      cases h1
      rw [he] at hx
      obtain ⟨b, o', vals, e1, _⟩ := hx.eptr_inv
      refine OpOk.of_run (u := a.eval x) h ?_ hx
      simp [execOp, e1]
    · rename_i f fs cs he
      obtain ⟨v', h1, rfl⟩ := pv_some hr
      cases h1
      rw [he] at hx
      obtain ⟨vfs, vcs, e1, _⟩ := hx.fn_inv
      refine OpOk.of_run (u := a.eval x) h ?_ hx
      simp [execOp, e1]
    · cases hr
  case binOp op t x y _ =>
    split at hr
    · rename_i hfree
      obtain ⟨v, h1, rfl⟩ := pv_some hr
      obtain ⟨u, g1, g2⟩ := bin_ok c.w (ev x) (ev y) h1
      refine OpOk.of_pure (s := do eqGuard op t x y (a.eval x) (a.eval y); binOp op t (a.eval x) (a.eval y)) h rfl ⟨u, ?_, g2⟩
      rw [Sem.run_bind, eqGuard_ok c.w hfree (ev x) (ev y), Result.andThen_ok]
      exact g1
    · obtain ⟨v, h1, rfl⟩ := pv_some hr
      obtain ⟨u, g1, g2⟩ := nil_ok (t := t) (x := x) c.w (ev x) h1
      refine OpOk.of_pure (s := do eqGuard op t x y (a.eval x) (a.eval y); binOp op t (a.eval x) (a.eval y)) h rfl ⟨u, ?_, g2⟩
      rw [nil_const h1]
      exact g1
  case unOp op t x =>
    obtain ⟨v, h1, rfl⟩ := pv_some hr
    exact OpOk.of_pure h rfl (un_ok c.w (ev x) h1)
  case convert src d x =>
    rw [← hS] at hr
    cases res with
    | val v ds => exact OpOk.of_mok rfl (conv_ok h (ev x) hr)
    | pan v ds => unfold aConv newRow at hr; (repeat' split at hr) <;> cases hr
    | dfr f as => unfold aConv newRow at hr; (repeat' split at hr) <;> cases hr
  case makeInterface t x =>
    split at hr
    · cases hr
    · rename_i d hni hd
      split at hr
      · rename_i hs
        obtain ⟨v, h1, rfl⟩ := pv_some hr
        cases h1
        refine OpOk.of_pure (s := Instr.makeInterface t (a.eval x)) h rfl ⟨.iface t (a.eval x), ?_, .pure (.iface _ _ _ hs (V_simple hs (ev x)))⟩
        have := run_underlying (P := P) hd c.w
        unfold Instr.makeInterface
        rw [Sem.run_bind, this, Result.andThen_ok]
        split
        · rename_i m; exact (hni m rfl).elim
        · rfl
      · cases hr
    · cases hr
  case makeFunc fn first captured =>
    cases fn <;> simp only at hr <;> first | (cases hr; done) | skip
    rename_i f
    split at hr
    · obtain ⟨v, h1, rfl⟩ := pv_some hr
      cases h1
      have g1 := VL_map hfr first.toList
      have g2 := VL_map hfr captured.toList
      refine OpOk.of_run (u := .func (.func f) (first.map a.eval) (captured.map a.eval)) h (by simp [execOp, Instr.makeFunc]) ?_
      have e1 : first.map a.eval = (first.toList.map a.eval).toArray := by rw [← Array.toList_map, Array.toArray_toList]
      have e2 : captured.map a.eval = (captured.toList.map a.eval).toArray := by rw [← Array.toList_map, Array.toArray_toList]
      rw [e1, e2]
      exact .fn f _ _ _ _ g1.1 g2.1 g1.2 g2.2
    · cases hr
  case makeSlice t l m =>
    rw [← hS] at hr
    cases res with
    | val v ds => exact OpOk.of_mok rfl (make_ok h (ev l) (ev m) hr)
    | pan v ds => unfold aMakeSlice newRow at hr; (repeat' split at hr) <;> cases hr
    | dfr f as => unfold aMakeSlice newRow at hr; (repeat' split at hr) <;> cases hr
  case slice t x lo hi mx =>
    obtain ⟨v, h1, rfl⟩ := pv_some hr
    rw [← hS] at h1
    exact OpOk.of_pure h rfl (slice_ok c.w (ev x) (OV_map hfr lo) (OV_map hfr hi) (OV_map hfr mx) h1)
  case fieldAddr s x f =>
    obtain ⟨v, h1, rfl⟩ := pv_some hr
    rw [← hS] at h1
    exact OpOk.of_pure h rfl (fieldAddr_ok (ev x) h1)
  case field t x f =>
    obtain ⟨v, h1, rfl⟩ := pv_some hr
    exact OpOk.of_pure h rfl (field_ok c.w (ev x) h1)
  case indexAddr t x i =>
    obtain ⟨v, h1, rfl⟩ := pv_some hr
    rw [← hS] at h1
    exact OpOk.of_pure h rfl (indexAddr_ok (ev x) (ev i) h1)
  case index t x i =>
    obtain ⟨v, h1, rfl⟩ := pv_some hr
    exact OpOk.of_pure h rfl (index_ok c.w (ev x) (ev i) h1)
  case extract t i =>
    split at hr
    · rename_i vs hvs
      obtain ⟨v, h1, rfl⟩ := pv_some hr
      exact OpOk.of_pure h rfl (extract_ok (x := .undef) c.w (hvs ▸ ev t) h1)
    · cases hr
  case typeAssert x xT asserted ok =>
    obtain ⟨v, h1, rfl⟩ := pv_some hr
    exact OpOk.of_pure h rfl (assert_ok c.w (ev x) h1)
  case panic x =>
    split at hr
    · rename_i t v hx
      split at hr
      · rename_i hs
        cases hr
        have hv := hx ▸ ev x
        obtain ⟨u, e1, _⟩ := hv.iface_inv
        intro next Q hn
        unfold Oper.wp
        have : (execOp a.eval { dst := dst, op := .panic x, type := type, pos := pos, after := after, guard := guard }).run P c.w = .halt (.panic (.iface t u)) c.w := by
          simp [execOp, Instr.panic, e1, goPanic]
        rw [this, Oper.upon_panic]
        exact hn _ c rfl h (Le.refl c) (e1 ▸ hv)
      · cases hr
    · cases hr
  case call cl =>
    obtain ⟨callee, args, argTypes⟩ := cl
    cases callee with
    | value f =>
      simp only at hr
      split at hr
      · rename_i g first captured he
        rw [← hS] at hr
        have hf := he ▸ ev f
        obtain ⟨vfs, vcs, e1, l1, l2, p1, p2⟩ := hf.fn_inv
        have hargs := VL.append (VL.append (c := c) ⟨l1, p1⟩ (VL_map hfr args.toList)) (⟨l2, p2⟩ : VL c captured vcs)
        obtain ⟨⟨fn, b, k1, k2, k3⟩, hc⟩ := call_ok hF h hargs hr
        have hrun : (execOp a.eval { dst := dst, op := .call { callee := .value f, args := args, argTypes := argTypes }, type := type, pos := pos, after := after, guard := guard }).run P c.w =
            .ok (.enter g (vfs ++ args.toList.map a.eval ++ vcs).toArray) c.w := by
          have hm : args.map a.eval = (args.toList.map a.eval).toArray := by rw [← Array.toList_map, Array.toArray_toList]
          have k3' : ¬ fn.name = "runtime.NumGoroutine" := by simpa using k3
          simp only [execOp, resolve, e1, Deferred.ofValue, hm]
          simp [invoke, callFunc, k1, k2, k3']
        cases res with
        | val v ds =>
          intro next Q hn
          unfold Oper.wp
          rw [hrun, Oper.upon_enter]
          refine hc.mono ?_
          rintro e w' ⟨pan, a', ds', u, c1, hres, he', hw, g2, g3, g4, g5⟩
          cases pan
          · cases hres
            subst he'
            subst hw
            exact hn u c1 g2 g3 g4 g5
          · cases hres
        | pan v ds =>
          intro next Q hn
          unfold Oper.wp
          rw [hrun, Oper.upon_enter]
          refine hc.mono ?_
          rintro e w' ⟨pan, a', ds', u, c1, hres, he', hw, g2, g3, g4, g5⟩
          cases pan
          · cases hres
          · cases hres
            subst he'
            subst hw
            exact hn u c1 g2 g3 g4 g5
        | dfr f' as =>
          intro next Q hn
          unfold Oper.wp
          rw [hrun, Oper.upon_enter]
          refine hc.mono ?_
          rintro e w' ⟨pan, a', ds', u, c1, hres, he', hw, g2, g3, g4, g5⟩
          cases pan <;> cases hres
      · cases hr
    | invoke r m => simp at hr
    | builtin b =>
      simp only at hr
      have hm : args.map a.eval = (args.toList.map a.eval).toArray := by rw [← Array.toList_map, Array.toArray_toList]
      have hvl := VL_map hfr args.toList
      generalize args.toList.map st.ev = as at hr hvl
      generalize args.toList.map a.eval = vs at hm hvl
      have hty : argTypes = argTypes.toList.toArray := by simp
      generalize argTypes.toList = ts at hr hty
      subst hty
      unfold aBuiltin at hr
      cases b <;> simp only at hr <;> try (cases hr; done)
      case len =>
        split at hr
        · rename_i t r
          split at hr
          · rename_i x r'
            obtain ⟨v, r'', rfl, h1, h2⟩ := VL.of_cons hvl
            split at hr
            · rename_i v' hv'
              cases hr
              rw [← hS] at hv'
              exact OpOk.of_pure (s := Builtin.len_ (t :: r).toArray type (v :: r'').toArray) h (by rw [← hm]; rfl) (len_ok c.w h1 hv')
            · cases hr
          · cases hr
        · cases hr
      case append =>
        split at hr
        · rename_i sT xT
          split at hr
          · rename_i s x
            obtain ⟨sv, r1, rfl, h1, h2⟩ := VL.of_cons hvl
            obtain ⟨xv, r2, rfl, h3, h4⟩ := VL.of_cons h2
            have : r2 = [] := List.eq_nil_of_length_eq_zero (by simpa using h4.1.symm)
            subst this
            rw [← hS] at hr
            cases res with
            | val v ds => exact OpOk.of_mok (by simp only [execOp, resolve, hm]; rfl) (append_ok (ty := type) h h1 h3 hr)
            | pan v ds => unfold aAppend newRow at hr; (repeat' split at hr) <;> cases hr
            | dfr f as => unfold aAppend newRow at hr; (repeat' split at hr) <;> cases hr
          · cases hr
        · cases hr
      case copy =>
        split at hr
        · rename_i dT xT
          split at hr
          · rename_i s x
            obtain ⟨sv, r1, rfl, h1, h2⟩ := VL.of_cons hvl
            obtain ⟨xv, r2, rfl, h3, h4⟩ := VL.of_cons h2
            have : r2 = [] := List.eq_nil_of_length_eq_zero (by simpa using h4.1.symm)
            subst this
            rw [← hS] at hr
            cases res with
            | val v ds => exact OpOk.of_mok (by simp only [execOp, resolve, hm]; rfl) (copy_ok (ty := type) h h1 h3 hr)
            | pan v ds => unfold aCopy at hr; (repeat' split at hr) <;> cases hr
            | dfr f as => unfold aCopy at hr; (repeat' split at hr) <;> cases hr
          · cases hr
        · cases hr
      case clear =>
        split at hr
        · rename_i t r
          split at hr
          · rename_i x r'
            obtain ⟨v, r'', rfl, h1, h2⟩ := VL.of_cons hvl
            rw [← hS] at hr
            cases res with
            | val v' ds => exact OpOk.of_mok (by simp only [execOp, resolve, hm]; rfl) (clear_ok (ty := type) h h1 hr)
            | pan v ds => unfold aClear at hr; (repeat' split at hr) <;> cases hr
            | dfr f as => unfold aClear at hr; (repeat' split at hr) <;> cases hr
          · cases hr
        · cases hr
      case min =>
        split at hr
        · rename_i k m r'
          obtain ⟨v, r'', rfl, h1, h2⟩ := VL.of_cons hvl
          split at hr
          · rename_i v' hv'
            cases hr
            exact OpOk.of_pure (s := Builtin.min_ ts.toArray type (v :: r'').toArray) h (by rw [← hm]; rfl) (by simpa [Builtin.min_] using min_ok c.w hv' h1 h2.1 h2.2)
          · cases hr
        · cases hr
      case max =>
        split at hr
        · rename_i k m r'
          obtain ⟨v, r'', rfl, h1, h2⟩ := VL.of_cons hvl
          split at hr
          · rename_i v' hv'
            cases hr
            exact OpOk.of_pure (s := Builtin.max_ ts.toArray type (v :: r'').toArray) h (by rw [← hm]; rfl) (by simpa [Builtin.max_] using max_ok c.w hv' h1 h2.1 h2.2)
          · cases hr
        · cases hr
  case defer cl =>
    obtain ⟨callee, args, argTypes⟩ := cl
    cases callee with
    | value f =>
      simp only at hr
      split at hr
      · rename_i g first captured he
        cases hr
        have hf := he ▸ ev f
        obtain ⟨vfs, vcs, e1, l1, l2, p1, p2⟩ := hf.fn_inv
        have hm : args.map a.eval = (args.toList.map a.eval).toArray := by rw [← Array.toList_map, Array.toArray_toList]
        have hrun : (execOp a.eval { dst := dst, op := .defer { callee := .value f, args := args, argTypes := argTypes }, type := type, pos := pos, after := after, guard := guard }).run P c.w =
            .ok (.defer { target := .fn (.func g) vcs.toArray, args := vfs.toArray ++ (args.toList.map a.eval).toArray }) c.w := by
          rw [← hm]
          simp [execOp, resolve, e1, Deferred.ofValue]
        intro next Q hn
        unfold Oper.wp
        rw [hrun, Oper.upon_defer]
        exact hn _ _ _ _ _ hf (VL_map hfr args.toList) e1
      · cases hr
    | invoke r m => simp at hr
    | builtin b => simp at hr
end
end Go.Ab
