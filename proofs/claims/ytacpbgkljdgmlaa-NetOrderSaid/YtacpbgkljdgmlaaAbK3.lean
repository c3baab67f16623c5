/- The evaluator in its tests' order: functions; what is told of functions, as a table. -/
import Derived.Test.YtacpbgkljdgmlaaAbK2
set_option linter.unusedVariables false
set_option linter.unusedSimpArgs false
namespace Go.Ab
open Go

section
variable {R : Type} {P : Program}

theorem callValK_ok {cfg : Cfg} {callF : CallF} {callK : CallK R} (hC : ∀ f args out (K : Ret → Option R) r, callK f args out K = some r → ∃ q, callF f args out = some q ∧ K q = some r)
    {bs : List (Nat × Blk)} {d : Option Tmp} {f : FuncId} {args : List AV} {K : Res → Option R} {r : R} (h : callValK cfg callK bs d f args K = some r) : ∃ v, aCall cfg callF bs d f args = some v ∧ K v = some r := by
  unfold callValK at h
  unfold aCall
  obtain ⟨⟨args2, ks, out⟩, hci, h⟩ := callInK_ok h
  obtain ⟨q, h1, h2⟩ := hC _ _ _ _ _ h
  simp only [hci, h1]
  split at h2
  · rename_i hl
    rw [hl]
    exact callOut1_ok (by simp [freeze]) h2
  · rename_i b l hl
    rw [hl]
    rcases bK_inv h2 with ⟨h3, h4⟩ | ⟨h3, h4⟩
    · exact callOut1_ok (by rw [h3]; rfl) h4
    · exact callOut1_ok (by rw [h3]; rfl) h4

/-- The operations of a call that was put off. -/
def opsDK (P : Program) (cfg : Cfg) (callF : CallF) (callK : CallK R) (n : Nat) (ops : Array Oper) : List Oper → St → Option AV → Bool → (St → Option AV → Bool → Option R) → Option R
  | [], st, r, b, K => K st r b
  | o :: rest, st, r, b, K =>
    wantedK ops st o (fun st =>
      match o.op with
      | .call { callee := .builtin .recover, .. } =>
        match r with
        | some v => if v.noSlcC = true then match st.put n o.dst v [] with
            | some st' => opsDK P cfg callF callK n ops rest st' none true K
            | none => none
          else none
        | none => match st.put n o.dst .inil [] with
          | some st' => opsDK P cfg callF callK n ops rest st' none b K
          | none => none
      | _ => opK P cfg callF callK 0 st o fun
        | .val v ds => match st.put n o.dst v ds with
          | some st' => opsDK P cfg callF callK n ops rest st' r b K
          | none => none
        | _ => none)
      (fun st => match st.put n o.dst .skp [] with
        | some st' => opsDK P cfg callF callK n ops rest st' r b K
        | none => none)

theorem opsDK_ok {cfg : Cfg} {callF : CallF} {callK : CallK R} (hC : ∀ f args out (K : Ret → Option R) r, callK f args out K = some r → ∃ q, callF f args out = some q ∧ K q = some r)
    {n : Nat} {ops : Array Oper} : ∀ {rest : List Oper} {st : St} {r : Option AV} {b : Bool} {K : St → Option AV → Bool → Option R} {y : R}, opsDK P cfg callF callK n ops rest st r b K = some y →
      ∃ st' r' b', aOpsD P cfg callF n ops rest st r b = some (st', r', b') ∧ K st' r' b' = some y
  | [], st, r, b, K, y, h => ⟨_, _, _, rfl, h⟩
  | o :: rest, st, r, b, K, y, h => by
    unfold opsDK at h
    unfold aOpsD
    rcases wantedK_ok h with ⟨h1, h2⟩ | ⟨h1, h2⟩
    · simp only [h1]
      split at h2
      · rename_i hop
        simp only [hop]
        split at h2
        · split at h2
          · rename_i hv
            simp only
            rw [if_pos hv]
            split at h2
            · rename_i hp; simp only [hp]; exact opsDK_ok hC h2
            · cases h2
          · cases h2
        · split at h2
          · rename_i hp; simp only [hp]; exact opsDK_ok hC h2
          · cases h2
      · rename_i hop
        obtain ⟨v, h3, h4⟩ := opK_ok hC h2
        split
        · rename_i hop2; exact absurd hop2 (hop _ _)
        · simp only [h3]
          split at h4
          · simp only
            split at h4
            · rename_i hp; simp only [hp]; exact opsDK_ok hC h4
            · cases h4
          · cases h4
    · simp only [h1]
      split at h2
      · rename_i hp; simp only [hp]; exact opsDK_ok hC h2
      · cases h2

/-- Its code. -/
def codeDK (P : Program) (cfg : Cfg) (callF : CallF) (callK : CallK R) (f : FuncId) (n : Nat) : Code → St → Option AV → Bool → (Bool → St → Option AV → Bool → Option R) → Option R
  | .skip, st, r, b, K => K false st r b
  | .region _ ops false, st, r, b, K => opsDK P cfg callF callK n ops ops.toList st r b fun st r b => K false st r b
  | .region id ops true, st, r, b, K => regionK P cfg callF callK f n id ops true st fun e st' => match e with
    | .norm => K false st' r b
    | _ => none
  | .seq x y, st, r, b, K => codeDK P cfg callF callK f n x st r b fun e st' r' b' => match e with
    | false => codeDK P cfg callF callK f n y st' r' b' K
    | true => K true st' r' b'
  | .cond c x y, st, r, b, K => match st.ev c with
    | .bool t => bK t (codeDK P cfg callF callK f n x st r b K) (codeDK P cfg callF callK f n y st r b K)
    | _ => none
  | .ret, st, r, b, K => K true st r b
  | _, _, _, _, _ => none

theorem codeDK_ok {cfg : Cfg} {callF : CallF} {callK : CallK R} (hC : ∀ f args out (K : Ret → Option R) r, callK f args out K = some r → ∃ q, callF f args out = some q ∧ K q = some r)
    {f n : Nat} : ∀ {c : Code} {st : St} {r : Option AV} {b : Bool} {K : Bool → St → Option AV → Bool → Option R} {y : R}, codeDK P cfg callF callK f n c st r b K = some y →
      ∃ e st' r' b', aCodeD P cfg callF f n c st r b = some (e, st', r', b') ∧ K e st' r' b' = some y := by
  intro c
  induction c with
  | skip => intro st r b K y h; exact ⟨_, _, _, _, rfl, h⟩
  | ret => intro st r b K y h; exact ⟨_, _, _, _, rfl, h⟩
  | region id ops draw =>
    intro st r b K y h
    cases draw with
    | false =>
      obtain ⟨st', r', b', h1, h2⟩ := opsDK_ok hC h
      exact ⟨_, _, _, _, by simp only [aCodeD, h1], h2⟩
    | true =>
      obtain ⟨e, st', h1, h2⟩ := regionK_ok hC h
      split at h2
      · exact ⟨_, _, _, _, by simp only [aCodeD, h1], h2⟩
      · cases h2
  | seq x z hx hz =>
    intro st r b K y h
    obtain ⟨e, st', r', b', h1, h2⟩ := hx h
    cases e with
    | false =>
      obtain ⟨e2, st2, r2, b2, h3, h4⟩ := hz h2
      exact ⟨_, _, _, _, by simp only [aCodeD, h1, h3], h4⟩
    | true => exact ⟨_, _, _, _, by simp only [aCodeD, h1], h2⟩
  | cond c x z hx hz =>
    intro st r b K y h
    unfold codeDK at h
    split at h
    · rename_i t ht
      rcases bK_inv h with ⟨h1, h2⟩ | ⟨h1, h2⟩
      · obtain ⟨e, st', r', b', h3, h4⟩ := hx h2
        exact ⟨_, _, _, _, by simp only [aCodeD, ht, h1, if_true]; exact h3, h4⟩
      · obtain ⟨e, st', r', b', h3, h4⟩ := hz h2
        exact ⟨_, _, _, _, by simp only [aCodeD, ht, h1, Bool.false_eq_true, if_false]; exact h3, h4⟩
    · cases h
  | _ => intros; rename_i h; simp [codeDK] at h

def funcDK (P : Program) (cfg : Cfg) (callF : CallF) (callK : CallK R) (r : Option AV) (f : FuncId) (args : List AV) (out : List Blk) (K : Ret → Option R) : Option R :=
  if cfg.isF f then
    match P.funcs[f]? with
    | some fn => match fn.body with
      | some c => if args.length ≤ fn.ntmps ∧ fn.results.size = 0 then
          codeDK P cfg callF callK f fn.ntmps c { fr := paramsFr 0 args, bs := outerSt out, df := [] } r false fun _ st _ b =>
            if st.df.isEmpty = true then match leave st out.length false (.bool b) with
              | some q => K q
              | none => none
            else none
        else none
      | none => none
    | none => none
  else none

theorem funcDK_ok {cfg : Cfg} {callF : CallF} {callK : CallK R} (hC : ∀ f args out (K : Ret → Option R) r, callK f args out K = some r → ∃ q, callF f args out = some q ∧ K q = some r)
    (x : Option AV) : ∀ f args out (K : Ret → Option R) r, funcDK P cfg callF callK x f args out K = some r → ∃ q, aFuncD P cfg callF x f args out = some q ∧ K q = some r := by
  intro f args out K r h
  unfold funcDK at h
  unfold aFuncD
  split at h
  · rename_i h1
    rw [if_pos h1]
    split at h
    · rename_i fn hfn
      simp only [hfn]
      split at h
      · rename_i c hc
        simp only [hc]
        split at h
        · rename_i h2
          rw [if_pos h2]
          obtain ⟨e, st, r', b, h3, h4⟩ := codeDK_ok hC h
          simp only [h3]
          split at h4
          · rename_i h5
            rw [if_pos h5]
            split at h4
            · rename_i q hq
              exact ⟨_, hq, h4⟩
            · cases h4
          · cases h4
        · cases h
      · cases h
    · cases h
  · cases h

def unwindK (P : Program) (cfg : Cfg) (callF : CallF) (callK : CallK R) : List (AV × List AV) → Option AV → St → (Option AV → St → Option R) → Option R
  | [], r, st, K => K r st
  | (.fn g first captured, args) :: ds, r, st, K =>
    callValK cfg (funcDK P cfg callF callK r) st.bs none g (first ++ args ++ captured) fun
    | .val (.bool true) d => unwindK P cfg callF callK ds none { st with bs := d ++ st.bs } K
    | .val (.bool false) d => unwindK P cfg callF callK ds r { st with bs := d ++ st.bs } K
    | _ => none
  | _, _, _, _ => none

theorem unwindK_ok {cfg : Cfg} {callF : CallF} {callK : CallK R} (hC : ∀ f args out (K : Ret → Option R) r, callK f args out K = some r → ∃ q, callF f args out = some q ∧ K q = some r) :
    ∀ {ds : List (AV × List AV)} {r : Option AV} {st : St} {K : Option AV → St → Option R} {y : R}, unwindK P cfg callF callK ds r st K = some y → ∃ r' st', unwindA P cfg callF ds r st = some (r', st') ∧ K r' st' = some y
  | [], r, st, K, y, h => ⟨_, _, rfl, h⟩
  | (.fn g first captured, args) :: ds, r, st, K, y, h => by
    rw [unwindK] at h
    obtain ⟨v, h1, h2⟩ := callValK_ok (funcDK_ok hC r) h
    rw [unwindA]
    simp only [h1]
    split at h2
    · exact unwindK_ok hC h2
    · exact unwindK_ok hC h2
    · cases h2
  | (.bool _, _) :: _, _, _, _, _, h => by simp [unwindK] at h
  | (.int _ _, _) :: _, _, _, _, _, h => by simp [unwindK] at h
  | (.str _, _) :: _, _, _, _, _, h => by simp [unwindK] at h
  | (.agg _, _) :: _, _, _, _, _, h => by simp [unwindK] at h
  | (.tup _, _) :: _, _, _, _, _, h => by simp [unwindK] at h
  | (.slc _ _, _) :: _, _, _, _, _, h => by simp [unwindK] at h
  | (.sref _ _ _ _, _) :: _, _, _, _, _, h => by simp [unwindK] at h
  | (.ptr _ _ _ _, _) :: _, _, _, _, _, h => by simp [unwindK] at h
  | (.eptr _ _, _) :: _, _, _, _, _, h => by simp [unwindK] at h
  | (.pnil, _) :: _, _, _, _, _, h => by simp [unwindK] at h
  | (.fnil, _) :: _, _, _, _, _, h => by simp [unwindK] at h
  | (.iface _ _, _) :: _, _, _, _, _, h => by simp [unwindK] at h
  | (.inil, _) :: _, _, _, _, _, h => by simp [unwindK] at h
  | (.skp, _) :: _, _, _, _, _, h => by simp [unwindK] at h
  | (.undef, _) :: _, _, _, _, _, h => by simp [unwindK] at h

def finishK (P : Program) (cfg : Cfg) (callF : CallF) (callK : CallK R) (fn : Func) (m : Nat) (ds : List (AV × List AV)) (r : Option AV) (st : St) (K : Ret → Option R) : Option R :=
  unwindK P cfg callF callK ds r st fun r st' => match r with
    | none => match resultsOf P st' fn.results.toList with
      | some v => match leave st' m false v with
        | some q => K q
        | none => none
      | none => none
    | some v => match leave st' m true v with
      | some q => K q
      | none => none

theorem finishK_ok {cfg : Cfg} {callF : CallF} {callK : CallK R} (hC : ∀ f args out (K : Ret → Option R) r, callK f args out K = some r → ∃ q, callF f args out = some q ∧ K q = some r)
    {fn : Func} {m : Nat} {ds : List (AV × List AV)} {x : Option AV} {st : St} {K : Ret → Option R} {r : R} (h : finishK P cfg callF callK fn m ds x st K = some r) :
    ∃ q, finish P cfg callF fn m ds x st = some q ∧ K q = some r := by
  obtain ⟨r', st', h1, h2⟩ := unwindK_ok hC h
  unfold finish
  simp only [h1]
  split at h2
  · split at h2
    · rename_i hv
      simp only [hv]
      split at h2
      · rename_i q hq; exact ⟨_, hq, h2⟩
      · cases h2
    · cases h2
  · split at h2
    · rename_i q hq; exact ⟨_, hq, h2⟩
    · cases h2

def funcK (P : Program) (cfg : Cfg) (callF : CallF) (callK : CallK R) (lp : LPs) (f : FuncId) (args : List AV) (out : List Blk) (K : Ret → Option R) : Option R :=
  if cfg.isF f then
    match P.funcs[f]? with
    | some fn => match fn.body with
      | some c => if args.length ≤ fn.ntmps then
          codeK P cfg callF callK lp f fn.ntmps 0 c { fr := paramsFr 0 args, bs := outerSt out, df := [] } fun e st => match e with
            | .pan v => finishK P cfg callF callK fn out.length st.df (some v) st K
            | .exit _ => none
            | _ => finishK P cfg callF callK fn out.length st.df none st K
        else none
      | none => none
    | none => none
  else none

def FLoopsOk (P : Program) (cfg : Cfg) (callF : CallF) (lp : LPs) (f : FuncId) : Prop := ∀ fn c, P.funcs[f]? = some fn → fn.body = some c → LoopsOk P cfg callF lp f fn.ntmps 0 c

theorem fLoops_none {cfg : Cfg} {callF : CallF} {f : FuncId} : FLoopsOk P cfg callF (fun _ _ => none) f := fun _ _ _ _ _ _ _ _ h => by cases h

theorem kr_inv {x : Option Ret} {K : Ret → Option R} {r : R} (h : (match x with | some v => K v | none => none) = some r) : ∃ v, x = some v ∧ K v = some r := by
  cases x with
  | none => cases h
  | some v => exact ⟨v, rfl, h⟩

theorem funcK_ok {cfg : Cfg} {callF : CallF} {callK : CallK R} (hC : ∀ f args out (K : Ret → Option R) r, callK f args out K = some r → ∃ q, callF f args out = some q ∧ K q = some r)
    {lp : LPs} {f : FuncId} (hl : FLoopsOk P cfg callF lp f) {args : List AV} {out : List Blk} {K : Ret → Option R} {r : R} (h : funcK P cfg callF callK lp f args out K = some r) :
    ∃ q, aFunc P cfg callF f args out = some q ∧ K q = some r := by
  unfold funcK at h
  unfold aFunc
  split at h
  · rename_i h1
    rw [if_pos h1]
    split at h
    · rename_i fn hfn
      simp only [hfn]
      split at h
      · rename_i c hc
        simp only [hc]
        split at h
        · rename_i h2
          rw [if_pos h2]
          obtain ⟨e, st, h3, h4⟩ := codeK_ok hC (hl fn c hfn hc) h
          simp only [h3]
          cases e with
          | norm => exact finishK_ok hC h4
          | ret => exact finishK_ok hC h4
          | exit j => cases h4
          | pan v => exact finishK_ok hC h4
        · cases h
      · cases h
    · cases h
  · cases h

abbrev PKs := FuncId → Option PK

/-- The evaluator's setting with all that is told. -/
def Cfg.with (cfg : Cfg) (pk : PKs) : Cfg := { cfg with prim := fun f => match pk f with
  | some p => some p.G
  | none => none }

def evK (P : Program) (cfg : Cfg) (pk : PKs) : Nat → CallK R
  | 0 => fun _ _ _ _ => none
  | k + 1 => fun f args out K =>
    match pk f with
    | some p => oK (p.dec args out) fun d => altK (p.out d) K
    | none => funcK P (cfg.with pk) (evF P (cfg.with pk) k) (evK P cfg pk k) (fun _ _ => none) f args out K

theorem evK_ok {cfg : Cfg} {pk : PKs} : ∀ k f args out (K : Ret → Option R) r, evK P cfg pk k f args out K = some r → ∃ q, evF P (cfg.with pk) k f args out = some q ∧ K q = some r
  | 0, _, _, _, _, _, h => by cases h
  | k + 1, f, args, out, K, r, h => by
    unfold evK at h
    simp only [evF]
    split at h
    · rename_i p hp
      have : (cfg.with pk).prim f = some p.G := by simp only [Cfg.with, hp]
      simp only [this]
      obtain ⟨d, h1, h2⟩ := oK_inv h
      unfold PK.G
      simp only [h1]
      exact ⟨_, rfl, altK_ok h2⟩
    · rename_i hp
      have : (cfg.with pk).prim f = none := by simp only [Cfg.with, hp]
      simp only [this]
      exact funcK_ok (evK_ok k) fLoops_none h

/-- A function's text, once, with all that is told of others. -/
def unitK (P : Program) (cfg : Cfg) (pk : PKs) (lp : LPs) (f : FuncId) (args : List AV) (out : List Blk) : Option Ret :=
  funcK P (cfg.with pk) (evF P (cfg.with pk) 20) (evK P cfg pk 20) lp f args out some

theorem unitK_ok {cfg : Cfg} {pk : PKs} {lp : LPs} {f : FuncId} (hp : pk f = none) (hl : FLoopsOk P (cfg.with pk) (evF P (cfg.with pk) 20) lp f) {args : List AV} {out : List Blk} {r : Ret} (h : unitK P cfg pk lp f args out = some r) :
    evF P (cfg.with pk) 21 f args out = some r := by
  obtain ⟨q, h1, h2⟩ := funcK_ok (evK_ok 20) hl h
  cases h2
  have : (cfg.with pk).prim f = none := by simp only [Cfg.with, hp]
  simp only [evF, this]
  exact h1

/-- All that is told is so. -/
def PKsOk (P : Program) (pk : PKs) : Prop := ∀ f p, pk f = some p → PrimOk P f p.G

theorem PKsOk.none : PKsOk P (fun _ => none) := fun _ _ h => by cases h

def PKs.add (pk : PKs) (f : FuncId) (p : PK) : PKs := fun g => if g = f then some p else pk g

theorem PKsOk.fn {cfg : Cfg} {pk : PKs} (h : PKsOk P pk) {l : List FuncId} (hm : P.follows .mixedOrders = true) (hl : ∀ f, cfg.isF f = true → f ∈ l) (ht : l.all (fnOkB P cfg) = true) (k : Nat) : FnOk P (evF P (cfg.with pk) k) := by
  have ht' : l.all (fnOkB P (cfg.with pk)) = true := ht
  refine ev_sound (cfg := cfg.with pk) (cfg_ok hm (l := l) (fun f hf => hl f hf) ht' (fun f g hg => ?_)) k
  simp only [Cfg.with] at hg
  split at hg
  · rename_i p hp; cases hg; exact h f p hp
  · cases hg

theorem PKsOk.add {pk : PKs} (h : PKsOk P pk) {f : FuncId} {p : PK} {callF : CallF} (hF : FnOk P callF) (hp : ∀ args out d, p.dec args out = some d → callF f args out = some (p.out d).val) : PKsOk P (pk.add f p) := by
  intro g q hq
  unfold PKs.add at hq
  split at hq
  · rename_i hg
    cases hq
    subst hg
    intro args out r hr
    unfold PK.G at hr
    split at hr
    · rename_i d hd
      cases hr
      have := hp _ _ _ hd
      exact ⟨hF.there this, hF.ok this⟩
    · cases hr
  · exact h g q hq
end
end Go.Ab
