/- The evaluator in its tests' order: functions; what is told of functions, as a table. -/
import Derived.Test.YtlhnpfpdjlcakaaAbK2
set_option linter.unusedVariables false
set_option linter.unusedSimpArgs false
namespace Go.Ab
open Go

section
variable {R : Type} {P : Program}

def funcK (P : Program) (cfg : Cfg) (callF : CallF) (callK : CallK R) (lp : LPs) (f : FuncId) (args : List AV) (out : List Blk) (K : Ret → Option R) : Option R :=
  if cfg.isF f then
    match P.funcs[f]? with
    | some fn => match fn.body with
      | some c => if args.length ≤ fn.ntmps then
          codeK P cfg callF callK lp f fn.ntmps 0 c { fr := paramsFr 0 args, bs := outerSt out, df := [] } fun e st => match e with
            | .pan v => match finish P cfg callF fn out.length st.df (some v) st with
              | some r => K r
              | none => none
            | .exit _ => none
            | _ => match finish P cfg callF fn out.length st.df none st with
              | some r => K r
              | none => none
        else none
      | none => none
    | none => none
  else none

def FLoopsOk (P : Program) (cfg : Cfg) (callF : CallF) (lp : LPs) (f : FuncId) : Prop := ∀ fn c, P.funcs[f]? = some fn → fn.body = some c → LoopsOk P cfg callF lp f fn.ntmps 0 c

theorem fLoops_none {cfg : Cfg} {callF : CallF} {f : FuncId} : FLoopsOk P cfg callF (fun _ _ => none) f := fun _ _ _ _ _ _ _ _ h => by cases h

theorem kr_inv {x : Option Ret} {K : Ret → Option R} {r : R} (h : (match x with | some v => K v | none => none) = some r) : ∃ v, x = some v ∧ K v = some r := by
  cases x with
  | none => cases h
  | some v => exact ⟨v, rfl, h⟩

theorem funcK_ok {cfg : Cfg} {callF : CallF} {callK : CallK R} (hC : ∀ f args out (K : Ret → Option R) r, callK f args out K = some r → ∃ q, callF f args out = some q ∧ K q = some r)
    {lp : LPs} {f : FuncId} (hl : FLoopsOk P cfg callF lp f) {args : List AV} {out : List Blk} {K : Ret → Option R} {r : R} (h : funcK P cfg callF callK lp f args out K = some r) :
    ∃ q, aFunc P cfg callF f args out = some q ∧ K q = some r := by
  unfold funcK at h
  unfold aFunc
  split at h
  · rename_i h1
    rw [if_pos h1]
    split at h
    · rename_i fn hfn
      simp only [hfn]
      split at h
      · rename_i c hc
        simp only [hc]
        split at h
        · rename_i h2
          rw [if_pos h2]
          obtain ⟨e, st, h3, h4⟩ := codeK_ok hC (hl fn c hfn hc) h
          simp only [h3]
          cases e with
          | norm => exact kr_inv h4
          | ret => exact kr_inv h4
          | exit j => cases h4
          | pan v => exact kr_inv h4
        · cases h
      · cases h
    · cases h
  · cases h

abbrev PKs := FuncId → Option PK

/-- The evaluator's setting with all that is told. -/
def Cfg.with (cfg : Cfg) (pk : PKs) : Cfg := { cfg with prim := fun f => match pk f with
  | some p => some p.G
  | none => none }

def evK (P : Program) (cfg : Cfg) (pk : PKs) : Nat → CallK R
  | 0 => fun _ _ _ _ => none
  | k + 1 => fun f args out K =>
    match pk f with
    | some p => oK (p.dec args out) fun d => altK (p.out d) K
    | none => funcK P (cfg.with pk) (evF P (cfg.with pk) k) (evK P cfg pk k) (fun _ _ => none) f args out K

theorem evK_ok {cfg : Cfg} {pk : PKs} : ∀ k f args out (K : Ret → Option R) r, evK P cfg pk k f args out K = some r → ∃ q, evF P (cfg.with pk) k f args out = some q ∧ K q = some r
  | 0, _, _, _, _, _, h => by cases h
  | k + 1, f, args, out, K, r, h => by
    unfold evK at h
    simp only [evF]
    split at h
    · rename_i p hp
      have : (cfg.with pk).prim f = some p.G := by simp only [Cfg.with, hp]
      simp only [this]
      obtain ⟨d, h1, h2⟩ := oK_inv h
      unfold PK.G
      simp only [h1]
      exact ⟨_, rfl, altK_ok h2⟩
    · rename_i hp
      have : (cfg.with pk).prim f = none := by simp only [Cfg.with, hp]
      simp only [this]
      exact funcK_ok (evK_ok k) fLoops_none h

/-- A function's text, once, with all that is told of others. -/
def unitK (P : Program) (cfg : Cfg) (pk : PKs) (lp : LPs) (f : FuncId) (args : List AV) (out : List Blk) : Option Ret :=
  funcK P (cfg.with pk) (evF P (cfg.with pk) 20) (evK P cfg pk 20) lp f args out some

theorem unitK_ok {cfg : Cfg} {pk : PKs} {lp : LPs} {f : FuncId} (hp : pk f = none) (hl : FLoopsOk P (cfg.with pk) (evF P (cfg.with pk) 20) lp f) {args : List AV} {out : List Blk} {r : Ret} (h : unitK P cfg pk lp f args out = some r) :
    evF P (cfg.with pk) 21 f args out = some r := by
  obtain ⟨q, h1, h2⟩ := funcK_ok (evK_ok 20) hl h
  cases h2
  have : (cfg.with pk).prim f = none := by simp only [Cfg.with, hp]
  simp only [evF, this]
  exact h1

/-- All that is told is so. -/
def PKsOk (P : Program) (pk : PKs) : Prop := ∀ f p, pk f = some p → PrimOk P f p.G

theorem PKsOk.none : PKsOk P (fun _ => none) := fun _ _ h => by cases h

def PKs.add (pk : PKs) (f : FuncId) (p : PK) : PKs := fun g => if g = f then some p else pk g

theorem PKsOk.fn {cfg : Cfg} {pk : PKs} (h : PKsOk P pk) {l : List FuncId} (hm : P.follows .mixedOrders = true) (hl : ∀ f, cfg.isF f = true → f ∈ l) (ht : l.all (fnOkB P cfg) = true) (k : Nat) : FnOk P (evF P (cfg.with pk) k) := by
  have ht' : l.all (fnOkB P (cfg.with pk)) = true := ht
  refine ev_sound (cfg := cfg.with pk) (cfg_ok hm (l := l) (fun f hf => hl f hf) ht' (fun f g hg => ?_)) k
  simp only [Cfg.with] at hg
  split at hg
  · rename_i p hp; cases hg; exact h f p hp
  · cases hg

theorem PKsOk.add {pk : PKs} (h : PKsOk P pk) {f : FuncId} {p : PK} {callF : CallF} (hF : FnOk P callF) (hp : ∀ args out d, p.dec args out = some d → callF f args out = some (p.out d).val) : PKsOk P (pk.add f p) := by
  intro g q hq
  unfold PKs.add at hq
  split at hq
  · rename_i hg
    cases hq
    subst hg
    intro args out r hr
    unfold PK.G at hr
    split at hr
    · rename_i d hd
      cases hr
      have := hp _ _ _ hd
      exact ⟨hF.there this, hF.ok this⟩
    · cases hr
  · exact h g q hq
end
end Go.Ab
