/- Loops: a round at a time. -/
import Derived.Test.YtihgfpggdkhhaaaAbClone2
import Derived.Test.YtihgfpggdkhhaaaAbM
set_option linter.unusedVariables false
set_option linter.unusedSimpArgs false
namespace Go.Ab
open Go

section
variable {P : Program}

def loopsOf : Nat → Code → List (Nat × Code)
  | c, .seq a b => loopsOf c a ++ loopsOf c b
  | c, .cond _ a b => loopsOf c a ++ loopsOf c b
  | _, .block id b => loopsOf id b
  | c, .loop b => (c, b) :: loopsOf c b
  | _, _ => []

theorem at_mem : ∀ {c0 : Nat} {code : Code} {c : Nat} {b : Code}, At c0 code c (.loop b) → (c, b) ∈ loopsOf c0 code := by
  have key : ∀ {c0 : Nat} {code : Code} {c : Nat} {x : Code}, At c0 code c x → ∀ b, x = .loop b → (c, b) ∈ loopsOf c0 code := by
    intro c0 code c x h
    induction h with
    | here c b => rintro b rfl; simp [loopsOf]
    | seqL _ ih => intro b e; simp [loopsOf, ih b e]
    | seqR _ ih => intro b e; simp [loopsOf, ih b e]
    | condL _ ih => intro b e; simp [loopsOf, ih b e]
    | condR _ ih => intro b e; simp [loopsOf, ih b e]
    | block _ ih => intro b e; simp [loopsOf, ih b e]
    | loop _ ih => intro b e; simp [loopsOf, ih b e]
  intro c0 code c b h
  exact key h b rfl

theorem At.trans {c0 : Nat} {x : Code} {c1 : Nat} {y : Code} (h : At c0 x c1 y) {c2 : Nat} {z : Code} (h' : At c1 y c2 z) : At c0 x c2 z := by
  induction h with
  | here c b => exact h'
  | seqL _ ih => exact .seqL (ih h')
  | seqR _ ih => exact .seqR (ih h')
  | condL _ ih => exact .condL (ih h')
  | condR _ ih => exact .condR (ih h')
  | block _ ih => exact .block (ih h')
  | loop _ ih => exact .loop (ih h')

def codeOf (P : Program) (f : FuncId) : Code := match P.funcs[f]? with
  | some fn => match fn.body with
    | some c => c
    | none => .skip
  | none => .skip
def tmpsOf (P : Program) (f : FuncId) : Nat := match P.funcs[f]? with
  | some fn => fn.ntmps
  | none => 0

def findC (c : Nat) : List (Nat × Code) → Code
  | [] => .skip
  | (d, b) :: r => if d = c then b else findC c r

/-- The loop's round at a place. -/
def bodyAt (P : Program) (f c : Nat) : Code := findC c (loopsOf 0 (codeOf P f))

/-- One round, from a head to the next. -/
def stepK (P : Program) (cfg : Cfg) (pk : PKs) (lp : LPs) (f c : Nat) (st : St) : Option (St ⊕ (Ex × St)) :=
  codeK P (cfg.with pk) (evF P (cfg.with pk) 20) (evK P cfg pk 20) lp f (tmpsOf P f) c (bodyAt P f c) st fun e st' => match e with
    | .norm => match restrict ((cfg.with pk).keep f c) st' with
      | some s => some (.inl s)
      | none => none
    | .pan v => some (.inr (.pan v, st'))
    | e => match restrict ((cfg.with pk).keepX f c) st' with
      | some s => some (.inr (e, s))
      | none => none

/-- From a head to the loop's end, in so many rounds. -/
def Runs' (P : Program) (cfg : Cfg) (pk : PKs) (f c : Nat) (k : Nat) (st : St) (r : Ex × St) : Prop :=
  ∀ st0, restrict ((cfg.with pk).keep f c) st0 = some st → exitX (restrict ((cfg.with pk).keepX f c)) (aLoop (restrict ((cfg.with pk).keep f c)) (aCode P (cfg.with pk) (evF P (cfg.with pk) 20) f (tmpsOf P f) c (bodyAt P f c)) k st0) = some r

/-- All that is told of a function's loops is so. -/
def LPok (P : Program) (cfg : Cfg) (pk : PKs) (lp : LPs) (f : FuncId) : Prop := LoopsOk P (cfg.with pk) (evF P (cfg.with pk) 20) lp f (tmpsOf P f) 0 (codeOf P f)

theorem LPok.none {cfg : Cfg} {pk : PKs} {f : FuncId} : LPok P cfg pk (fun _ _ => Option.none) f := fun _ _ _ _ h => by cases h

theorem LPok.loops {cfg : Cfg} {pk : PKs} {lp : LPs} {f : FuncId} (h : LPok P cfg pk lp f) : FLoopsOk P (cfg.with pk) (evF P (cfg.with pk) 20) lp f := by
  intro fn c hfn hc
  have h1 : codeOf P f = c := by simp only [codeOf, hfn, hc]
  have h2 : tmpsOf P f = fn.ntmps := by simp only [tmpsOf, hfn]
  unfold LPok at h
  rwa [h1, h2] at h

theorem findC_mem {c : Nat} : ∀ {l : List (Nat × Code)} {b : Code}, (c, b) ∈ l → (l.map (·.1)).Nodup → findC c l = b
  | (d, x) :: r, b, h, hn => by
    unfold findC
    simp only [List.map_cons, List.nodup_cons] at hn
    rcases List.mem_cons.1 h with h | h
    · cases h; simp
    · by_cases hd : d = c
      · exfalso
        subst hd
        exact hn.1 (List.mem_map.2 ⟨_, h, rfl⟩)
      · rw [if_neg hd]
        exact findC_mem h hn.2

/-- Each place has one loop. -/
def OneLoops (P : Program) (f : FuncId) : Prop := ((loopsOf 0 (codeOf P f)).map (·.1)).Nodup

theorem step_at {cfg : Cfg} {pk : PKs} {lp : LPs} {f c : Nat} (h : LPok P cfg pk lp f) (hat : At 0 (codeOf P f) c (.loop (bodyAt P f c))) {st : St} {r : St ⊕ (Ex × St)} (hs : stepK P cfg pk lp f c st = some r) :
    ∃ e st', aCode P (cfg.with pk) (evF P (cfg.with pk) 20) f (tmpsOf P f) c (bodyAt P f c) st = some (e, st') ∧ (match e with
    | .norm => match restrict ((cfg.with pk).keep f c) st' with
      | some s => some (Sum.inl s)
      | none => none
    | .pan v => some (Sum.inr (.pan v, st'))
    | e => match restrict ((cfg.with pk).keepX f c) st' with
      | some s => some (Sum.inr (e, s))
      | none => none) = some r :=
  codeK_ok (evK_ok 20) (fun c' b' L ha hL => h c' b' L ((hat.trans (.loop ha))) hL) hs

theorem Runs'.step {cfg : Cfg} {pk : PKs} {lp : LPs} {f c : Nat} (h : LPok P cfg pk lp f) (hat : At 0 (codeOf P f) c (.loop (bodyAt P f c))) {st st1 : St} (hs : stepK P cfg pk lp f c st = some (.inl st1)) {k : Nat} {r : Ex × St} (hr : Runs' P cfg pk f c k st1 r) :
    Runs' P cfg pk f c (k + 1) st r := by
  obtain ⟨e, st', h1, h2⟩ := step_at h hat hs
  intro st0 h0
  unfold aLoop
  simp only [h0, h1]
  cases e with
  | norm =>
    simp only at h2 ⊢
    cases hres : restrict ((cfg.with pk).keep f c) st' with
    | none => rw [hres] at h2; cases h2
    | some s =>
      rw [hres] at h2
      cases h2
      exact hr st' hres
  | exit j => simp only at h2; split at h2 <;> cases h2
  | ret => simp only at h2; split at h2 <;> cases h2
  | pan v => cases h2

theorem Runs'.done {cfg : Cfg} {pk : PKs} {lp : LPs} {f c : Nat} (h : LPok P cfg pk lp f) (hat : At 0 (codeOf P f) c (.loop (bodyAt P f c))) {st : St} {r : Ex × St} (hs : stepK P cfg pk lp f c st = some (.inr r)) {k : Nat} :
    Runs' P cfg pk f c (k + 1) st r := by
  obtain ⟨e, st', h1, h2⟩ := step_at h hat hs
  intro st0 h0
  unfold aLoop
  simp only [h0, h1]
  cases e with
  | norm =>
    simp only at h2
    split at h2 <;> cases h2
  | exit j =>
    simp only at h2
    cases hres : restrict ((cfg.with pk).keepX f c) st' with
    | none => rw [hres] at h2; cases h2
    | some s => rw [hres] at h2; cases h2; simp only [exitX, hres]
  | ret =>
    simp only at h2
    cases hres : restrict ((cfg.with pk).keepX f c) st' with
    | none => rw [hres] at h2; cases h2
    | some s => rw [hres] at h2; cases h2; simp only [exitX, hres]
  | pan v => cases h2; rfl

theorem At_of_mem : ∀ {c0 : Nat} {code : Code} {c : Nat} {b : Code}, (c, b) ∈ loopsOf c0 code → At c0 code c (.loop b)
  | c0, .seq x y, c, b, h => by
    simp only [loopsOf, List.mem_append] at h
    rcases h with h | h
    · exact .seqL (At_of_mem h)
    · exact .seqR (At_of_mem h)
  | c0, .cond o x y, c, b, h => by
    simp only [loopsOf, List.mem_append] at h
    rcases h with h | h
    · exact .condL (At_of_mem h)
    · exact .condR (At_of_mem h)
  | c0, .block id x, c, b, h => by
    simp only [loopsOf] at h
    exact .block (At_of_mem h)
  | c0, .loop x, c, b, h => by
    simp only [loopsOf] at h
    rcases List.mem_cons.1 h with h | h
    · cases h; exact .here _ _
    · exact .loop (At_of_mem h)
  | _, .skip, _, _, h => by simp [loopsOf] at h
  | _, .region .., _, _, h => by simp [loopsOf] at h
  | _, .rangeFunc .., _, _, h => by simp [loopsOf] at h
  | _, .exit _, _, _, h => by simp [loopsOf] at h
  | _, .scope _, _, _, h => by simp [loopsOf] at h
  | _, .label _, _, _, h => by simp [loopsOf] at h
  | _, .goto _, _, _, h => by simp [loopsOf] at h
  | _, .ret, _, _, h => by simp [loopsOf] at h
  | _, .refuse _, _, _, h => by simp [loopsOf] at h

theorem at_body {f c : Nat} (hn : OneLoops P f) (hc : c ∈ (loopsOf 0 (codeOf P f)).map (·.1)) : At 0 (codeOf P f) c (.loop (bodyAt P f c)) := by
  obtain ⟨⟨d, b⟩, h1, rfl⟩ := List.mem_map.1 hc
  unfold bodyAt
  rw [findC_mem h1 hn]
  exact At_of_mem h1

def LPs.add (lp : LPs) (f c : Nat) (L : LP) : LPs := fun g d => if g = f ∧ d = c then some L else lp g d

theorem LPok.add {cfg : Cfg} {pk : PKs} {lp : LPs} {f c : Nat} (h : LPok P cfg pk lp f) (hn : OneLoops P f) {L : LP}
    (hL : ∀ st d, L.dec st = some d → Runs' P cfg pk f c rounds st (L.out d).val) : LPok P cfg pk (lp.add f c L) f := by
  intro c' b L' hat hlp st st1 d hr hd
  unfold LPs.add at hlp
  split at hlp
  · rename_i hc
    cases hlp
    obtain ⟨_, rfl⟩ := hc
    have hb : bodyAt P f c' = b := findC_mem (at_mem hat) hn
    subst hb
    exact hL st1 d hd st hr
  · exact h c' b L' hat hlp st st1 d hr hd

/-- What is told of a loop, by its heads. -/
noncomputable def LP.of {D : Type} (hd : D → St) (pre : D → Prop) (out : D → Alt (Ex × St)) : LP :=
  open Classical in { D := D, dec := fun st => if h : ∃ d, pre d ∧ st = hd d then some (Classical.choose h) else none, out := out }

theorem LP.of_dec {D : Type} {hd : D → St} {pre : D → Prop} {out : D → Alt (Ex × St)} {st : St} {d : D} (h : (LP.of hd pre out).dec st = some d) : pre d ∧ st = hd d := by
  unfold LP.of at h
  simp only at h
  split at h
  · rename_i hx
    cases h
    exact Classical.choose_spec hx
  · cases h

theorem oK_lp {R : Type} {D : Type} {hd : D → St} {pre : D → Prop} {out : D → Alt (Ex × St)} (hinj : ∀ d d', hd d = hd d' → d = d') (d : D) (hp : pre d) {k : D → Option R} {z : Option R} (hz : k d = z) :
    oK ((LP.of hd pre out).dec (hd d)) k = z := by
  have hx : ∃ d', pre d' ∧ hd d = hd d' := ⟨d, hp, rfl⟩
  have : (LP.of hd pre out).dec (hd d) = some d := by
    unfold LP.of
    simp only
    rw [dif_pos hx]
    congr 1
    exact (hinj _ _ (Classical.choose_spec hx).2).symm
  rw [this]
  show oK (α := D) (some d) k = z
  rw [oK_some]
  exact hz

theorem oK_lpq {R : Type} {D : Type} {hd : D → St} {pre : D → Prop} {out : D → Alt (Ex × St)} (hinj : ∀ d d', hd d = hd d' → d = d') (d : D) (hp : pre d) {k : D → Option R} {Q : Option R → Prop} (hz : Q (k d)) :
    Q (oK ((LP.of hd pre out).dec (hd d)) k) := by
  rw [oK_lp (k := k) (z := k d) hinj d hp rfl]
  exact hz

theorem LPok.addH {cfg : Cfg} {pk : PKs} {lp : LPs} {f c : Nat} (h : LPok P cfg pk lp f) (hn : OneLoops P f) {D : Type} {hd : D → St} {pre : D → Prop} {out : D → Alt (Ex × St)}
    (hL : ∀ d, pre d → Runs' P cfg pk f c rounds (hd d) (out d).val) : LPok P cfg pk (lp.add f c (LP.of hd pre out)) f :=
  h.add hn fun st d hd' => by
    obtain ⟨h1, rfl⟩ := LP.of_dec hd'
    exact hL d h1

theorem map_inj {agg : Bool} {fs : List Lf} (hok : okV agg fs = true) {l l' : List (Tu fs)} (h : l.map (mkV agg fs) = l'.map (mkV agg fs)) : l = l' := by
  have e1 := dec_fl hok true l
  have e2 := dec_fl hok true l'
  rw [h, e2] at e1
  cases e1; rfl
theorem mk_inj {fs : List Lf} (hok : Tu.ok fs = true) {d d' : Tu fs} (h : Tu.mk fs d = Tu.mk fs d') : d = d' := by
  have e1 := Tu.dec_of hok d []
  have e2 := Tu.dec_of hok d' []
  rw [h, e2] at e1
  cases e1; rfl

/-- It says yes. -/
def Yes (r : Option Ret) : Prop := r = some { pan := false, res := .bool true, out := [], new := [] }
theorem yes_leaf : Yes (some { pan := false, res := .bool true, out := [], new := [] }) := rfl
theorem yes_of {b : Bool} (h : b = true) : Yes (some { pan := false, res := .bool b, out := [], new := [] }) := by rw [h]; rfl

theorem yes_law {cfg : Cfg} {pk : PKs} {lp : LPs} {f : FuncId} (hp : pk f = none) (hl : FLoopsOk P (cfg.with pk) (evF P (cfg.with pk) 20) lp f) {args : List AV} (h : Yes (unitQ P cfg pk lp true f args [])) :
    ∃ r, evF P (cfg.with pk) 21 f args [] = some r ∧ r.pan = false ∧ r.res = .bool true := by
  obtain ⟨q, h1, h2⟩ := funcK_ok (evK_ok 20) hl h
  simp only [if_true] at h2
  cases h2
  have : (cfg.with pk).prim f = none := by simp only [Cfg.with, hp]
  exact ⟨_, by simp only [evF, this]; exact h1, rfl, rfl⟩

theorem ldRow_map {fs : List Lf} (hok : Tu.ok fs = true) (l : List (Tu fs)) {i : Nat} (x : Tu fs) (h : i < l.length) : ldRow fs (l.map (mkV true fs)) i 0 = some (l.getD i x) := by
  have e : (l.map (mkV true fs))[i]? = some (mkV true fs l[i]) := by rw [List.getElem?_map, List.getElem?_eq_getElem h]; rfl
  unfold ldRow
  rw [e]
  have : l.getD i x = l[i] := by simp [List.getD, h]
  rw [this]
  show ldCells fs (Tu.mk fs l[i]) 0 = _
  exact ldCells_mk (agg := true) hok _

/-- For the bench: a loop's head as it is first met. -/
def headK (P : Program) (cfg : Cfg) (pk : PKs) (lp : LPs) (f c : Nat) (args : List AV) (out : List Blk) : Option (Ex × St) :=
  codeK P (cfg.with pk) (evF P (cfg.with pk) 20) (evK P cfg pk 20) (LPs.add lp f c { D := St, dec := some, out := fun st => .leaf (.exit 999999, st) }) f (tmpsOf P f) 0 (codeOf P f) { fr := paramsFr 0 args, bs := outerSt out, df := [] } fun e st => some (e, st)
end
end Go.Ab
