/- What the evaluator says of a function is so. -/
import Derived.Test.YtihgfpggdkhhaaaAbDef
set_option linter.unusedVariables false
set_option linter.unusedSimpArgs false
namespace Go.Ab
open Go

/-- A function that is taken as known is so. -/
def PrimOk (P : Program) (f : FuncId) (g : List AV → List Blk → Option Ret) : Prop :=
  ∀ {args : List AV} {out : List Blk} {r : Ret}, g args out = some r → Callable P f ∧
    ∀ {c : Cx} {w0 : World} {G X Lo : Nat → Prop} {vs : List Value}, c.S = outerSt out → (∀ x ∈ out, x.v = 0) → WR w0 G X Lo c → VL c args vs → Calls P f vs.toArray c.w (CallPost w0 G X Lo c r)

structure CfgOk (P : Program) (cfg : Cfg) (reg : FuncId → Nat → Array Oper → Bool) : Prop where
  isF : ∀ f, cfg.isF f = true → ∃ fn b, P.funcs[f]? = some fn ∧ fn.body = some b ∧ (fn.name == "runtime.NumGoroutine") = false ∧ codeOk (reg f) b = true
  draw : ∀ callF, FnOk P callF → DrawOk P cfg callF reg
  prim : ∀ f g, cfg.prim f = some g → PrimOk P f g

section
variable {P : Program} {w0 : World} {G X Lo : Nat → Prop}

theorem Sim.nodf {n : Nat} {c0 c : Cx} {st : St} {tmps : Array Value} (hS : c.S = st.bs) (hW : WR w0 G X Lo c) (hL : Le c0 c) (hfr : Fr c n st.fr tmps) : Sim w0 G X Lo n c0 c { st with df := [] } { tmps := tmps, defers := [] } :=
  ⟨hS, hW, hL, hfr, trivial⟩

theorem resultsOf_nodf (st : St) (rs : List ResultVar) : resultsOf P { st with df := [] } rs = resultsOf P st rs := by
  unfold resultsOf
  have : resultOf P { st with df := [] } = resultOf P st := by funext x; cases x <;> rfl
  rw [this]

theorem leave_nodf (st : St) (m : Nat) (p : Bool) (v : AV) : leave { st with df := [] } m p v = leave st m p v := by
  unfold leave
  rfl

theorem finish_ok {callF : CallF} (hF : FnOk P callF) {cfg : Cfg} {reg : FuncId → Nat → Array Oper → Bool} (hC : CfgOk P cfg reg) {n : Nat} {fn : Func} {out : List Blk} {c0 c : Cx} (hc0 : c0.S = outerSt out) (hout : ∀ x ∈ out, x.v = 0)
    {st : St} {a : Act} (hs : Sim w0 G X Lo n c0 c st a) {r : Option AV} {u : FrameMode} (hu : UM c r u) {ret : Ret} (h : finish P cfg callF fn out.length st.df r st = some ret) :
    Leaves P fn a.tmps (CallPost w0 G X Lo c0 ret) a.defers u c.w := by
  unfold finish at h
  split at h
  · rename_i st' hun
    refine unwind_ok hF (hC.draw _ hF) hC.isF _ _ _ _ _ _ hun hs.S hs.wr hs.fr hs.df hu ?_
    intro c1 u1 g1 g2 g3 g4 g5
    have hsim := Sim.nodf (c0 := c0) g1 g2 (hs.le.trans g3) g4
    split at h
    · rename_i v hv
      obtain ⟨x, k1, k2⟩ := resultsOf_ok hsim (v := v) (by rw [resultsOf_nodf]; exact hv)
      obtain ⟨hp, c2, j1, j2, j3, j4, j5⟩ := leave_ok hc0 hout hsim k2 ((leave_nodf st' _ _ _).trans h)
      rcases g5 with ⟨_, rfl⟩ | ⟨_, _, e, _⟩
      · simp only [Leaves]
        exact ⟨x, k1, c2, x, j1, j2, j3, j4, j5, by rw [hp, if_neg (by decide)]⟩
      · cases e
    · cases h
  · rename_i v st' hun
    refine unwind_ok hF (hC.draw _ hF) hC.isF _ _ _ _ _ _ hun hs.S hs.wr hs.fr hs.df hu ?_
    intro c1 u1 g1 g2 g3 g4 g5
    have hsim := Sim.nodf (c0 := c0) g1 g2 (hs.le.trans g3) g4
    rcases g5 with ⟨e, _⟩ | ⟨v', x, e, rfl, hx⟩
    · cases e
    · cases e
      obtain ⟨hp, c2, j1, j2, j3, j4, j5⟩ := leave_ok hc0 hout hsim hx ((leave_nodf st' _ _ _).trans h)
      simp only [thrown, Leaves]
      exact ⟨c2, x, j1, j2, j3, j4, j5, by rw [hp, if_pos rfl]⟩
  · cases h

theorem func_ok {callF : CallF} (hF : FnOk P callF) {cfg : Cfg} {reg : FuncId → Nat → Array Oper → Bool} (hC : CfgOk P cfg reg) {f : FuncId} {args : List AV} {out : List Blk} {ret : Ret} (hr : aFunc P cfg callF f args out = some ret) :
    Callable P f ∧ ∀ {c : Cx} {w0 : World} {G X Lo : Nat → Prop} {vs : List Value}, c.S = outerSt out → (∀ x ∈ out, x.v = 0) → WR w0 G X Lo c → VL c args vs → Calls P f vs.toArray c.w (CallPost w0 G X Lo c ret) := by
  have hcall : ∀ f, cfg.isF f = true → Callable P f := fun f hf => let ⟨fn, b, h1, h2, h3, _⟩ := hC.isF f hf; ⟨fn, b, h1, h2, h3⟩
  unfold aFunc at hr
  split at hr
  case isFalse => cases hr
  rename_i hisF
  refine ⟨hcall f hisF, ?_⟩
  intro c w0 G X Lo vs hS hout hW hv
  obtain ⟨fn', b', e1, e2, e3, e4⟩ := hC.isF f hisF
  split at hr
  case h_2 => cases hr
  rename_i fn hfn
  have : fn' = fn := Option.some.inj (e1.symm.trans hfn)
  subst this
  split at hr
  case h_2 => cases hr
  rename_i code hbody
  have : b' = code := Option.some.inj (e2.symm.trans hbody)
  subst this
  split at hr
  case isFalse => cases hr
  rename_i hn
  have h0 : ∀ b x, look c.S b = some x → outBase ≤ b := by
    intro b x hb
    rw [hS] at hb
    have hb' : look (withKeys outBase 0 out) b = some x := hb
    rw [look_withKeys] at hb'
    split at hb'
    · omega
    · cases hb'
  refine calls_of_wp_defers hfn hbody ?_
  have hst := start_ok hS hW hv hn
  have main : ∀ e st, aCode P cfg callF f fn'.ntmps 0 b' { fr := paramsFr 0 args, bs := outerSt out, df := [] } = some (e, st) →
      b'.wp P (Post w0 G X Lo fn'.ntmps c e st) { tmps := vs.toArray ++ Array.replicate (fn'.ntmps - vs.toArray.size) Go.undef, defers := [] } c.w :=
    fun e st h => code_ok hF (hC.draw callF hF) h0 b' 0 _ e st c _ e4 h hst
  split at hr
  · rename_i v st hcode
    refine wp_mono (main _ _ hcode) ?_
    rintro ex a w ⟨c1, rfl, hs, u, hu, rfl⟩
    exact finish_ok hF hC hS hout hs (.inr ⟨v, u, rfl, rfl, hu⟩) hr
  · cases hr
  · rename_i e st hne hnp hcode
    refine wp_mono (main _ _ hcode) ?_
    rintro ex a w ⟨c1, rfl, hs, hex⟩
    cases e with
    | norm => cases hex; exact finish_ok hF hC hS hout hs (.inl ⟨rfl, rfl⟩) hr
    | ret => cases hex; exact finish_ok hF hC hS hout hs (.inl ⟨rfl, rfl⟩) hr
    | exit id => exact (hnp _ rfl).elim
    | pan v => exact (hne _ rfl).elim
  · cases hr

theorem ev_sound {cfg : Cfg} {reg : FuncId → Nat → Array Oper → Bool} (hC : CfgOk P cfg reg) : ∀ k, FnOk P (evF P cfg k)
  | 0 => ⟨fun h => by simp [evF] at h, fun h => by simp [evF] at h⟩
  | k + 1 => by
    have ih := ev_sound hC k
    have key : ∀ {f args out r}, evF P cfg (k + 1) f args out = some r → Callable P f ∧ ∀ {c : Cx} {w0 : World} {G X Lo : Nat → Prop} {vs : List Value}, c.S = outerSt out → (∀ x ∈ out, x.v = 0) → WR w0 G X Lo c → VL c args vs → Calls P f vs.toArray c.w (CallPost w0 G X Lo c r) := by
      intro f args out r h
      simp only [evF] at h
      split at h
      · rename_i g hg
        exact hC.prim f g hg h
      · exact func_ok ih hC h
    exact ⟨fun h => (key h).1, fun h => (key h).2⟩

end
end Go.Ab
