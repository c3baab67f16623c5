/- Calls that were put off. -/
import Derived.Test.YtacpbgkljdgmlaaAbFn
import Derived.Recover
import Derived.Tactics
set_option linter.unusedVariables false
set_option linter.unusedSimpArgs false
namespace Go.Ab
open Go

section
variable {P : Program} {w0 : World} {G X Lo : Nat → Prop}

def thrown (u : Value) : FrameMode := .panicking [{ v := u, recovered := false }]
def caught (u : Value) : FrameMode := .panicking [{ v := u, recovered := true }]

/-- What was thrown, and was it caught? -/
def MR (md0 : FrameMode) (r : Option AV) (b : Bool) (md : FrameMode) : Prop :=
  (b = false ∧ md = md0 ∧ ((r = none ∧ md0 = .returning) ∨ ∃ v u, r = some v ∧ md0 = thrown u ∧ (v.noSlcC = true → ∀ c, V c v u))) ∨
  (b = true ∧ r = none ∧ ∃ u, md0 = thrown u ∧ md = caught u)

def PostD (w0 : World) (G X Lo : Nat → Prop) (n : Nat) (c0 : Cx) (md0 : FrameMode) (f0 : Frame) (tl : List Frame) (ret : Bool) (st : St) (r : Option AV) (b : Bool) (ex : Exit) (a : Act) (cs : List Frame) (w : World) : Prop :=
  ∃ c md, c.w = w ∧ Sim w0 G X Lo n c0 c st a ∧ MR md0 r b md ∧ cs = { f0 with mode := md } :: tl ∧ ex = if ret = true then .ret else .normal

theorem opsD_ok {callF : CallF} (hF : FnOk P callF) {cfg : Cfg} {n : Nat} {ops : Array Oper} {c0 : Cx} {md0 : FrameMode} {f0 : Frame} {tl : List Frame} {st' : St} {r' : Option AV} {b' : Bool} :
    ∀ (rest : List Oper) (i : Nat) (st : St) (r : Option AV) (b : Bool) (c : Cx) (a : Act) (md : FrameMode), aOpsD P cfg callF n ops rest st r b = some (st', r', b') → (∀ j, rest[j]? = ops[i + j]?) →
      Sim w0 G X Lo n c0 c st a → MR md0 r b md → wpOpsS P ops (PostD w0 G X Lo n c0 md0 f0 tl false st' r' b') (List.range' i rest.length) a ({ f0 with mode := md } :: tl) c.w
  | [], i, st, r, b, c, a, md, h, _, hs, hm => by
    simp only [aOpsD, Option.some.injEq, Prod.mk.injEq] at h
    obtain ⟨rfl, rfl, rfl⟩ := h
    exact ⟨c, md, rfl, hs, hm, rfl, rfl⟩
  | o :: rest, i, st, r, b, c, a, md, h, hl, hs, hm => by
    have h0 : ops[i]? = some o := by simpa using (hl 0).symm
    have hl' : ∀ j, rest[j]? = ops[i + 1 + j]? := fun j => by have := hl (j + 1); simpa [Nat.add_assoc, Nat.add_comm 1 j] using this
    rw [List.length_cons, List.range'_succ]
    simp only [wpOpsS, h0]
    simp only [aOpsD] at h
    split at h
    · cases h
    · rename_i hw
      rw [if_neg (by rw [wanted_ok hs.fr hw]; decide)]
      split at h
      · rename_i st1 hp
        exact opsD_ok hF rest (i + 1) st1 r b c _ md h hl' (hs.skip hp) hm
      · cases h
    · rename_i hw
      rw [if_pos (wanted_ok hs.fr hw)]
      split at h
      · rename_i args ats ho
        have hrun : (execOp a.eval o).run P c.w = .ok .recover c.w := by
          simp [execOp, ho, resolve, invoke, builtin]
        rw [hrun]
        simp only
        split at h
        · rename_i v
          split at h
          · rename_i hns
            split at h
            · rename_i st1 hp
              rcases hm with ⟨rfl, rfl, ⟨h1, _⟩ | ⟨v', u, h1, h2, h3⟩⟩ | ⟨_, h1, _⟩
              · cases h1
              · cases h1
                have hrec : recoverD ({ f0 with mode := md } :: tl) = some (u, { f0 with mode := caught u } :: tl) := by
                  rw [h2]; rfl
                rw [hrec]
                simp only
                exact opsD_ok hF rest (i + 1) st1 none true c _ (caught u) h hl' (hs.put hp rfl hs.wr (Le.refl c) (h3 hns c)) (.inr ⟨rfl, rfl, u, h2, rfl⟩)
              · cases h1
            · cases h
          · cases h
        · split at h
          · rename_i st1 hp
            have hrec : recoverD ({ f0 with mode := md } :: tl) = none := by
              rcases hm with ⟨_, rfl, ⟨_, h1⟩ | ⟨v', u, h1, _⟩⟩ | ⟨_, _, u, _, h1⟩
              · rw [h1]; rfl
              · cases h1
              · rw [h1]; rfl
            rw [hrec]
            simp only
            exact opsD_ok hF rest (i + 1) st1 none b c _ md h hl' (hs.put hp rfl hs.wr (Le.refl c) (.pure .inil)) hm
          · cases h
      · split at h
        · rename_i v ds hop
          split at h
          · rename_i st1 hp
            have := op_ok hF hs.wr hs.S hs.fr hop (fun a' w' => wpOpsS P ops (PostD w0 G X Lo n c0 md0 f0 tl false st' r' b') (List.range' (i + 1) rest.length) a' ({ f0 with mode := md } :: tl) w')
              (fun e a' w' => PostD w0 G X Lo n c0 md0 f0 tl false st' r' b' e a' ({ f0 with mode := md } :: tl) w')
              (fun u c1 g1 g2 g3 g4 => opsD_ok hF rest (i + 1) st1 r b c1 _ md h hl' (hs.put hp g1 g2 g3 g4) hm)
            unfold Oper.wp at this
            generalize (execOp a.eval o).run P c.w = rr at this
            split
            · exact this.elim
            · exact this
          · cases h
        · cases h

theorem codeD_ok {callF : CallF} (hF : FnOk P callF) {cfg : Cfg} {reg : FuncId → Nat → Array Oper → Bool} (hD : DrawOk P cfg callF reg) {f : FuncId} {n : Nat} {c0 : Cx} {md0 : FrameMode} {f0 : Frame} {tl : List Frame} :
    ∀ (code : Code) (_ : codeOk (reg f) code = true) (st : St) (r : Option AV) (b ret : Bool) (st' : St) (r' : Option AV) (b' : Bool) (c : Cx) (a : Act) (md : FrameMode), aCodeD P cfg callF f n code st r b = some (ret, st', r', b') →
      Sim w0 G X Lo n c0 c st a → MR md0 r b md → code.wpS P (PostD w0 G X Lo n c0 md0 f0 tl ret st' r' b') a ({ f0 with mode := md } :: tl) c.w := by
  intro code
  induction code with
  | skip =>
    intro hcode st r b ret st' r' b' c a md h hs hm
    simp only [aCodeD, Option.some.injEq, Prod.mk.injEq] at h
    obtain ⟨rfl, rfl, rfl, rfl⟩ := h
    exact wpS_of_wp (wp_skip ⟨c, md, rfl, hs, hm, rfl, rfl⟩)
  | ret =>
    intro hcode st r b ret st' r' b' c a md h hs hm
    simp only [aCodeD, Option.some.injEq, Prod.mk.injEq] at h
    obtain ⟨rfl, rfl, rfl, rfl⟩ := h
    exact wpS_of_wp (wp_ret ⟨c, md, rfl, hs, hm, rfl, rfl⟩)
  | region id ops draw =>
    intro hcode st r b ret st' r' b' c a md h hs hm
    cases draw with
    | true =>
      simp only [aCodeD] at h
      split at h
      · rename_i st1 h1
        cases h
        refine wpS_of_wp (wp_mono (hD f n id ops hcode w0 G X Lo c0 c st _ a .norm h1 hs) ?_)
        rintro ex a' w' ⟨c', hw, hs', hex⟩
        exact ⟨c', md, hw, hs', hm, rfl, hex⟩
      · cases h
    | false =>
      simp only [aCodeD] at h
      split at h
      · rename_i x hx
        obtain ⟨st1, r1, b1⟩ := x
        cases h
        refine wpS_region ?_
        rw [List.range_eq_range']
        have := opsD_ok hF (md0 := md0) (f0 := f0) (tl := tl) ops.toList 0 st r b c a md hx (fun j => by simp) hs hm
        simpa using this
      · cases h
  | seq x y ihx ihy =>
    intro hcode st r b ret st' r' b' c a md h hs hm
    simp only [codeOk, Bool.and_eq_true] at hcode
    simp only [aCodeD] at h
    split at h
    · rename_i st1 r1 b1 h1
      refine wpS_seq ?_
      have := ihx hcode.1 st r b false st1 r1 b1 c a md h1 hs hm
      intro bf k hb hro
      obtain ⟨e, a', cs', w', ⟨c1, md1, hw, hs1, hm1, hcs, hex⟩, harr⟩ := this bf k hb hro
      refine ⟨e, a', cs', w', ?_, harr⟩
      have hex : e = .normal := hex
      subst hex
      subst hcs
      show y.wpS P _ a' _ w'
      rw [← hw]
      exact ihy hcode.2 st1 r1 b1 ret st' r' b' c1 a' md1 h hs1 hm1
    · rename_i hnn
      refine wpS_seq ?_
      have := ihx hcode.1 st r b ret st' r' b' c a md h hs hm
      intro bf k hb hro
      obtain ⟨e, a', cs', w', ⟨c1, md1, hw, hs1, hm1, hcs, hex⟩, harr⟩ := this bf k hb hro
      refine ⟨e, a', cs', w', ?_, harr⟩
      cases ret with
      | false => exact absurd h (hnn _ _ _)
      | true =>
        have hex : e = .ret := hex
        subst hex
        exact ⟨c1, md1, hw, hs1, hm1, hcs, rfl⟩
  | cond q x y ihx ihy =>
    intro hcode st r b ret st' r' b' c a md h hs hm
    simp only [codeOk, Bool.and_eq_true] at hcode
    simp only [aCodeD] at h
    split at h
    · rename_i t ht
      have hq := ht ▸ ev_ok hs.fr q
      refine wpS_cond hq.bool_inv ?_
      cases t with
      | true => exact ihx hcode.1 st r b ret st' r' b' c a md h hs hm
      | false => exact ihy hcode.2 st r b ret st' r' b' c a md h hs hm
    · cases h
  | _ => intro _ st r b ret st' r' b' c a md h; simp [aCodeD] at h

/-- The parameters. -/
theorem params_look : ∀ (args : List AV) (i t : Nat), look (paramsFr i args) t = if i ≤ t then args[t - i]? else none
  | [], i, t => by simp [paramsFr, look]
  | x :: r, i, t => by
    simp only [paramsFr, look_cons]
    rw [params_look r (i + 1) t]
    by_cases e : i = t
    · subst e; simp
    · rw [if_neg e]
      by_cases hle : i ≤ t
      · have h2 : t - i = (t - (i + 1)) + 1 := by omega
        rw [if_pos (by omega), if_pos hle, h2, List.getElem?_cons_succ]
      · rw [if_neg hle, if_neg (by omega)]

theorem start_ok {c : Cx} {n : Nat} {out : List Blk} {args : List AV} {vs : List Value} (hS : c.S = outerSt out) (hW : WR w0 G X Lo c) (hv : VL c args vs) (hn : args.length ≤ n) :
    Sim w0 G X Lo n c c { fr := paramsFr 0 args, bs := outerSt out, df := [] } { tmps := vs.toArray ++ Array.replicate (n - vs.toArray.size) Go.undef, defers := [] } := by
  refine ⟨hS, hW, Le.refl c, ⟨?_, ?_, ?_⟩, trivial⟩
  · have := hv.1
    simp
    omega
  · intro t v ht
    rw [params_look] at ht
    simp only [Nat.zero_le, if_true, Nat.sub_zero] at ht
    have := (List.getElem?_eq_some_iff.1 ht).1
    omega
  · intro t v ht
    rw [params_look] at ht
    simp only [Nat.zero_le, if_true, Nat.sub_zero] at ht
    have hlt := (List.getElem?_eq_some_iff.1 ht).1
    have hlv : t < vs.length := by have := hv.1; omega
    have hu : vs[t]? = some vs[t] := List.getElem?_eq_getElem hlv
    have : (vs.toArray ++ Array.replicate (n - vs.toArray.size) Go.undef).getD t Go.undef = vs[t] := by
      simp [Array.getD, Array.getElem_append, hlv]
      omega
    rw [this]
    exact hv.2 t v _ ht hu

def PostDC (w0 : World) (G X Lo : Nat → Prop) (c : Cx) (md0 : FrameMode) (ret : Ret) (e : Ending) (u' : FrameMode) (w' : World) : Prop :=
  ∃ c' b v r, c'.w = w' ∧ c'.S = outerSt ret.out ++ withKeys newBase 0 ret.new ∧ WR w0 G X Lo c' ∧ Le c c' ∧ V c' ret.res (.bool b) ∧ ret.pan = false ∧ e = .returned v ∧ MR md0 r b u'

theorem funcD_ok {callF : CallF} (hF : FnOk P callF) {cfg : Cfg} {reg : FuncId → Nat → Array Oper → Bool} (hD : DrawOk P cfg callF reg) (hC : ∀ f, cfg.isF f = true → ∃ fn b, P.funcs[f]? = some fn ∧ fn.body = some b ∧ (fn.name == "runtime.NumGoroutine") = false ∧ codeOk (reg f) b = true) {r : Option AV} {f : FuncId} {args : List AV} {out : List Blk} {ret : Ret} (hr : aFuncD P cfg callF r f args out = some ret)
    {c : Cx} {vs : List Value} {md0 : FrameMode} (hS : c.S = outerSt out) (hout : ∀ x ∈ out, x.v = 0) (hW : WR w0 G X Lo c) (hv : VL c args vs) (hm : MR md0 r false md0) :
    CallsD P f vs.toArray md0 c.w (PostDC w0 G X Lo c md0 ret) := by
  unfold aFuncD at hr
  split at hr
  case isFalse => cases hr
  rename_i hisF
  split at hr
  case h_2 => cases hr
  rename_i fn hfn
  split at hr
  case h_2 => cases hr
  rename_i code hbody
  have hok : codeOk (reg f) code = true := by
    obtain ⟨fn2, b2, q1, q2, _, q4⟩ := hC f hisF
    have e1 : fn2 = fn := Option.some.inj (q1.symm.trans hfn)
    subst e1
    have e2 : b2 = code := Option.some.inj (q2.symm.trans hbody)
    subst e2
    exact q4
  split at hr
  case isFalse => cases hr
  rename_i hn
  split at hr
  case h_2 => cases hr
  rename_i rt st r' b hcode
  split at hr
  case isFalse => cases hr
  rename_i hdf
  refine callsD_of_wpS hfn hbody ?_
  intro f0 tl hmode
  have hf0 : f0 = { f0 with mode := md0 } := by rw [← hmode]
  have := codeD_ok hF hD (f0 := f0) (tl := tl) code hok _ r false rt st r' b c _ md0 hcode (start_ok hS hW hv hn.1) hm
  rw [← hf0] at this
  intro bf k hb hro
  obtain ⟨e, a', cs', w', ⟨c1, md1, hw, hs1, hm1, hcs, hex⟩, harr⟩ := this bf k hb hro
  refine ⟨e, a', cs', w', ?_, harr⟩
  have hd : a'.defers = [] := by
    have h1 := hs1.df
    have h2 : st.df = [] := by simpa using hdf
    rw [h2] at h1
    cases hh : a'.defers with
    | nil => rfl
    | cons d ds => rw [hh] at h1; exact h1.elim
  have hres : (results fn a'.tmps).run P w' = .ok (.tuple #[]) w' := results_none (by simpa using hn.2) _ _ _
  obtain ⟨hp, c2, g1, g2, g3, g4, g5⟩ := leave_ok hS hout hs1 (.pure (.bool b)) hr
  have hfin : PostDC w0 G X Lo c md0 ret (.returned (.tuple #[])) md1 w' := ⟨c2, b, _, r', by rw [g1, hw], g2, g3, g4, g5, hp, rfl, hm1⟩
  cases rt with
  | false =>
    have hex : e = .normal := hex
    subst hex
    exact ⟨hd, md1, hcs, _, hres, hfin⟩
  | true =>
    have hex : e = .ret := hex
    subst hex
    exact ⟨hd, md1, hcs, _, hres, hfin⟩

/-- What is thrown still. -/
def UM (c : Cx) (r : Option AV) (u : FrameMode) : Prop := (r = none ∧ u = .returning) ∨ ∃ v x, r = some v ∧ u = thrown x ∧ V c v x

theorem unwind_ok {callF : CallF} (hF : FnOk P callF) {cfg : Cfg} {reg : FuncId → Nat → Array Oper → Bool} (hD : DrawOk P cfg callF reg) (hC : ∀ f, cfg.isF f = true → ∃ fn b, P.funcs[f]? = some fn ∧ fn.body = some b ∧ (fn.name == "runtime.NumGoroutine") = false ∧ codeOk (reg f) b = true) {n : Nat} {fn : Func} {R : Ending → World → Prop} {r' : Option AV} {st' : St} {tmps : Array Value} :
    ∀ (df : List (AV × List AV)) (ds : List Deferred) (r : Option AV) (st : St) (c : Cx) (u : FrameMode), unwindA P cfg callF df r st = some (r', st') → c.S = st.bs → WR w0 G X Lo c → Fr c n st.fr tmps → DfR c df ds → UM c r u →
      (∀ c1 u1, c1.S = st'.bs → WR w0 G X Lo c1 → Le c c1 → Fr c1 n st'.fr tmps → UM c1 r' u1 → Leaves P fn tmps R [] u1 c1.w) → Leaves P fn tmps R ds u c.w
  | [], ds, r, st, c, u, h, hS, hW, hfr, hd, hu, K => by
    simp only [unwindA, Option.some.injEq, Prod.mk.injEq] at h
    obtain ⟨rfl, rfl⟩ := h
    cases ds with
    | nil => exact K c u hS hW (Le.refl c) hfr hu
    | cons => exact hd.elim
  | (f, args) :: df, ds, r, st, c, u, h, hS, hW, hfr, hd, hu, K => by
    cases ds with
    | nil => exact hd.elim
    | cons d ds =>
      obtain ⟨⟨fn', first, cap, vs, h1, h2, rfl⟩, h3⟩ := hd
      cases f <;> simp only [unwindA] at h <;> try (cases h; done)
      rename_i g fs cs
      obtain ⟨vfs, vcs, e1, l1, l2, p1, p2⟩ := h1.fn_inv
      injection e1 with e1 e2 e3
      subst e1; subst e2; subst e3
      have hargs := VL.append (VL.append (c := c) ⟨l1, p1⟩ h2) (⟨l2, p2⟩ : VL c cs vcs)
      have hrun : u ≠ .run := by
        rcases hu with ⟨_, e⟩ | ⟨_, _, _, e, _⟩ <;> rw [e] <;> simp [thrown]
      have key : ∀ (bb : Bool) (d : List (Nat × Blk)), aCall cfg (aFuncD P cfg callF r) st.bs none g (fs ++ args ++ cs) = some (.val (.bool bb) d) →
          (∀ c1 u1, c1.S = d ++ c.S → WR w0 G X Lo c1 → Le c c1 → UM c1 (if bb = true then none else r) u1 → Leaves P fn tmps R ds u1 c1.w) →
          Leaves P fn tmps R ({ target := .fn (.func g) vcs.toArray, args := vfs.toArray ++ vs.toArray } :: ds) u c.w := by
        intro bb d hcl K1
        rw [← hS] at hcl
        obtain ⟨args2, out, ret, cc, w0', G', X', Lo', hret, k1, k2, k3, k4, k5, k6⟩ := call_split hW hargs hcl
        have hisF : cfg.isF g = true := by
          unfold aFuncD at hret
          split at hret
          · assumption
          · cases hret
        obtain ⟨fn2, b2, q1, q2, q3, _⟩ := hC g hisF
        have q3' : ¬ fn2.name = "runtime.NumGoroutine" := by simpa using q3
        refine leaves_cons (f := g) (args := (vfs ++ vs ++ vcs).toArray) hrun (by simp [invoke, callFunc, q1, q2, q3']) ?_
        have hm : MR u r false u := by
          rcases hu with ⟨e1, e2⟩ | ⟨v, x, e1, e2, e3⟩
          · exact .inl ⟨rfl, rfl, .inl ⟨e1, e2⟩⟩
          · exact .inl ⟨rfl, rfl, .inr ⟨v, x, e1, e2, fun hns c' => noSlcC_V hns e3⟩⟩
        have := funcD_ok hF hD hC hret k2 k3 k4 k5 hm
        rw [k1] at this
        refine this.mono ?_
        rintro e u' w' ⟨c', b, v, r1, j1, j2, j3, j4, j5, j6, rfl, j7⟩
        simp only
        obtain ⟨c1, a1, ds1, i1, i2, i3, i4, i5, i6⟩ := k6 c' _ j2 j3 j4 j5
        rw [j6] at i1
        cases i1
        have hbb : bb = b := by have := i6.bool_inv; cases this; rfl
        subst hbb
        rw [← j1, ← i2]
        refine K1 c1 (settle u') i3 i4 i5 ?_
        rcases j7 with ⟨rfl, rfl, j8⟩ | ⟨rfl, _, x, j8, rfl⟩
        · simp only [Bool.false_eq_true, if_false]
          rcases hu with ⟨e1, e2⟩ | ⟨v, x, e1, e2, e3⟩
          · exact .inl ⟨e1, by rw [e2]; rfl⟩
          · exact .inr ⟨v, x, e1, by rw [e2]; rfl, e3.mono i5⟩
        · exact .inl ⟨rfl, rfl⟩
      split at h
      · rename_i d hcl
        refine key true d hcl (fun c1 u1 g1 g2 g3 g4 => ?_)
        exact unwind_ok hF hD hC df ds none _ c1 u1 h (by rw [g1, hS]) g2 (hfr.mono g3) (h3.mono g3) g4 (fun c2 u2 k1 k2 k3 k4 k5 => K c2 u2 k1 k2 (g3.trans k3) k4 k5)
      · rename_i d hcl
        refine key false d hcl (fun c1 u1 g1 g2 g3 g4 => ?_)
        exact unwind_ok hF hD hC df ds r _ c1 u1 h (by rw [g1, hS]) g2 (hfr.mono g3) (h3.mono g3) g4 (fun c2 u2 k1 k2 k3 k4 k5 => K c2 u2 k1 k2 (g3.trans k3) k4 k5)
      · cases h

end
end Go.Ab
