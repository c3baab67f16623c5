/- What is told of functions, in kinds: numbers, texts, lists. -/
import Derived.Test.YtacpbgkljdgmlaaAbW
set_option linter.unusedVariables false
set_option linter.unusedSimpArgs false
namespace Go.Ab
open Go

/-- What is in a list. -/
abbrev Lf.L : Lf → Type
  | .fl _ ks => List (Tu ks)
  | _ => Unit

mutual
def Lf.ok : Lf → Bool
  | .fl agg fs => (agg || fs.length == 1) && Tu.ok fs
  | _ => true
def Tu.ok : List Lf → Bool
  | [] => true
  | f :: r => f.ok && Tu.ok r
end

def okV (agg : Bool) (fs : List Lf) : Bool := (agg || fs.length == 1) && Tu.ok fs

theorem unA_of {agg : Bool} {fs : List Lf} (h : (agg || fs.length == 1) = true) (d : Tu fs) : unA agg fs.length (mkA agg (Tu.mk fs d)) = some (Tu.mk fs d) := by
  cases agg with
  | true => simp [unA, mkA, Tu.mk_length]
  | false =>
    have : fs.length = 1 := by simpa using h
    match fs, this with
    | [f], _ =>
      simp only [unA, mkA, Tu.mk, List.length_cons, List.length_nil]
      cases f <;> rfl

mutual
theorem Lf.dec_of : ∀ {f : Lf} (_ : f.ok = true) (x : f.T), f.dec (f.mk x) = some x
  | .fb, _, x => rfl
  | .fi k, _, x => by simp [Lf.dec, Lf.mk]
  | .fs, _, x => rfl
  | .fl agg fs, h, (x, l) => by
    simp only [Lf.ok, Bool.and_eq_true] at h
    have key : ∀ l : List (Tu fs), mapO (fun v => match unA agg fs.length v with
      | some cs => Tu.dec fs cs
      | none => none) (l.map fun d => mkA agg (Tu.mk fs d)) = some l := by
      intro l
      induction l with
      | nil => rfl
      | cons d l ih =>
        have h2 := Tu.dec_of h.2 d []
        rw [List.append_nil] at h2
        simp only [List.map_cons, mapO, unA_of h.1, h2, ih]
    simp only [Lf.dec, Lf.mk]
    split
    · rename_i l' hl
      have := (key l).symm.trans hl
      cases this; rfl
    · rename_i hl
      have := (key l).symm.trans hl
      cases this
theorem Tu.dec_of : ∀ {fs : List Lf} (_ : Tu.ok fs = true) (d : Tu fs) (r : List AV), Tu.dec fs (Tu.mk fs d ++ r) = some d
  | [], _, d, r => by cases d; rfl
  | [f], h, d, r => by
    simp only [Tu.ok, Bool.and_true] at h
    simp only [Tu.mk, List.cons_append, Tu.dec, Lf.dec_of h]
  | f :: g :: fs, h, (x, y), r => by
    have h1 : f.ok = true ∧ Tu.ok (g :: fs) = true := by simpa only [Tu.ok, Bool.and_eq_true] using h
    have := Tu.dec_of h1.2 y r
    simp only [Tu.mk, List.cons_append, Tu.dec, Lf.dec_of h1.1, this]
end

theorem decV_of {agg : Bool} {fs : List Lf} (h : okV agg fs = true) (d : Tu fs) : decV agg fs (mkV agg fs d) = some d := by
  simp only [okV, Bool.and_eq_true] at h
  unfold decV mkV
  rw [unA_of h.1]
  have := Tu.dec_of h.2 d []
  rwa [List.append_nil] at this

theorem dec_fl {agg : Bool} {fs : List Lf} (h : okV agg fs = true) (x : Bool) (l : List (Tu fs)) : (Lf.fl agg fs).dec (.slc x (l.map (mkV agg fs))) = some (x, l) :=
  Lf.dec_of (f := .fl agg fs) h (x, l)
theorem dec_fl_nil {agg : Bool} {fs : List Lf} (x : Bool) : (Lf.fl agg fs).dec (.slc x []) = some (x, []) := rfl
theorem dec_fi {k : IntKind} {n : Int} : (Lf.fi k).dec (.int k n) = some n := by simp [Lf.dec]
theorem dec_fb {b : Bool} : Lf.fb.dec (.bool b) = some b := rfl
theorem dec_fs {s : List UInt8} : Lf.fs.dec (.str s) = some s := rfl

theorem elemAt_map {agg : Bool} {fs : List Lf} (h : okV agg fs = true) (l : List (Tu fs)) (n : Int) : elemAt agg fs (l.map (mkV agg fs)) n = if 0 ≤ n then l[n.toNat]? else none := by
  unfold elemAt
  split
  · rw [List.getElem?_map]
    cases l[n.toNat]? with
    | none => rfl
    | some d => exact decV_of h d
  · rfl

theorem ldCells_mk {agg : Bool} {fs : List Lf} (h : Tu.ok fs = true) (d : Tu fs) : ldCells fs (Tu.mk fs d) 0 = some d := by
  have := Tu.dec_of h d []
  rw [List.append_nil] at this
  exact this

abbrev Shp := List (Option Nat)
def groupA : Shp → List AV → List AV
  | [], _ => []
  | none :: r, c :: cs => c :: groupA r cs
  | none :: _, [] => [.undef]
  | some n :: r, cs => .agg (cs.take n) :: groupA r (cs.drop n)
def notAgg : AV → Bool
  | .agg _ => false
  | _ => true
def flatA : Shp → List AV → Option (List AV)
  | [], [] => some []
  | none :: r, v :: vs => if notAgg v then match flatA r vs with
      | some cs => some (v :: cs)
      | none => none
    else none
  | some n :: r, .agg cs :: vs => if cs.length = n then match flatA r vs with
      | some l => some (cs ++ l)
      | none => none
    else none
  | _, _ => none

theorem flatA_group : ∀ {sh : Shp} {vs cs : List AV}, flatA sh vs = some cs → vs = groupA sh cs
  | [], [], cs, h => by cases h; rfl
  | [], _ :: _, cs, h => by cases h
  | none :: r, [], cs, h => by cases h
  | none :: r, v :: vs, cs, h => by
    simp only [flatA] at h
    split at h
    · split at h
      · rename_i l hl
        cases h
        simp only [groupA, ← flatA_group hl]
      · cases h
    · cases h
  | some n :: r, [], cs, h => by cases h
  | some n :: r, v :: vs, cs, h => by
    cases v <;> simp only [flatA] at h <;> try (cases h; done)
    split at h
    · rename_i hn
      split at h
      · rename_i l hl
        cases h
        subst hn
        simp [groupA, ← flatA_group hl]
      · cases h
    · cases h

def resA (sh : Shp) (cs : List AV) : AV := match groupA sh cs with
  | [v] => v
  | vs => .tup vs

def emptyAt (j : Nat) (cs : List AV) : Bool := match cs[j]? with
  | some (.slc _ es) => es.isEmpty
  | _ => true
def rowAt' (j sz : Nat) (cs : List AV) : List Blk := match cs[j]? with
  | some (.slc _ es) => [{ v := 0, k := .row, fz := false, sz := sz, es := es }]
  | _ => []
def srefAt (j : Nat) (cs : List AV) : List AV := match cs[j]? with
  | some (.slc _ es) => cs.set j (.sref newBase 0 0 es.length)
  | _ => cs

/-- The results; a list among them may be the caller's own. -/
def ownAlt (own : Option (Nat × Nat)) (rsh : Shp) (cs : List AV) (out : List Blk) : Alt Ret :=
  match own with
  | none => .leaf { pan := false, res := resA rsh cs, out := out, new := [] }
  | some (j, sz) => .ite (emptyAt j cs) (.leaf { pan := false, res := resA rsh (cs.set j (.slc true [])), out := out, new := [] })
      (.leaf { pan := false, res := resA rsh (srefAt j cs), out := out, new := rowAt' j sz cs })

theorem own_one {α : Type} {f : α → AV} {sz : Nat} {x : Bool} {l : List α} {out : List Blk} : (ownAlt (some (0, sz)) [none] [.slc x (l.map f)] out).val =
    if l = [] then { pan := false, res := .slc true [], out := out, new := [] } else { pan := false, res := .sref newBase 0 0 l.length, out := out, new := [{ v := 0, k := .row, fz := false, sz := sz, es := l.map f }] } := by
  cases l with
  | nil => rfl
  | cons a l =>
    simp only [ownAlt, Alt.val, emptyAt, srefAt, rowAt', List.getElem?_cons_zero, List.map_cons, List.isEmpty_cons, Bool.false_eq_true, if_false, List.set_cons_zero, resA, groupA, List.length_cons, List.length_map, reduceCtorEq]

/-- A function of values to values. -/
structure FS where
  sh : Shp
  fs : List Lf
  rsh : Shp
  rfs : List Lf
  pre : Tu fs → Prop
  F : Tu fs → Tu rfs
  own : Option (Nat × Nat) := none

def FS.out (p : FS) (y : Tu p.rfs) : Ret := { pan := false, res := resA p.rsh (Tu.mk p.rfs y), out := [], new := [] }
def FS.alts (p : FS) (d : Tu p.fs) : Alt Ret := ownAlt p.own p.rsh (Tu.mk p.rfs (p.F d)) []
def FS.ret (p : FS) (d : Tu p.fs) : Ret := (p.alts d).val
def FS.args (p : FS) (d : Tu p.fs) : List AV := groupA p.sh (Tu.mk p.fs d)
open Classical in
noncomputable def FS.dec (p : FS) (args : List AV) (out : List Blk) : Option (Tu p.fs) := match out with
  | [] => match flatA p.sh args with
    | some cs => if cs.length = p.fs.length then match Tu.dec p.fs cs with
        | some d => if p.pre d then some d else none
        | none => none
      else none
    | none => none
  | _ => none
noncomputable def FS.pk (p : FS) : PK := { D := Tu p.fs, dec := p.dec, out := p.alts }

theorem FS.dec_ok {p : FS} {args : List AV} {out : List Blk} {d : Tu p.fs} (h : p.dec args out = some d) : out = [] ∧ args = p.args d ∧ p.pre d := by
  unfold FS.dec at h
  split at h
  · split at h
    · rename_i cs hcs
      split at h
      · rename_i hl
        split at h
        · rename_i d' hd
          split at h
          · rename_i hp
            cases h
            refine ⟨rfl, ?_, hp⟩
            obtain ⟨h1, _⟩ := Tu.dec_mk hd
            rw [← hl, List.take_length] at h1
            rw [flatA_group hcs, h1]; rfl
          · cases h
        · cases h
      · cases h
    · cases h
  · cases h

theorem flatA_of : ∀ {sh : Shp} {cs : List AV} {n : Nat}, cs.length = n → (sh.map fun x => x.getD 1).sum = n → (∀ c ∈ cs, notAgg c = true) → flatA sh (groupA sh cs) = some cs
  | [], cs, n, h, h', _ => by
    simp at h'
    subst h'
    rw [List.eq_nil_of_length_eq_zero h]; rfl
  | none :: r, [], n, h, h', _ => by simp at h h'; omega
  | none :: r, c :: cs, n, h, h', hn => by
    simp at h h'
    simp only [groupA, flatA, hn c (by simp), if_true]
    rw [flatA_of (n := cs.length) rfl (by omega) (fun c hc => hn c (by simp [hc]))]
  | some m :: r, cs, n, h, h', hn => by
    simp at h h'
    have e : groupA (some m :: r) cs = .agg (cs.take m) :: groupA r (cs.drop m) := by cases cs <;> rfl
    rw [e]
    simp only [flatA]
    rw [if_pos (by rw [List.length_take]; omega), flatA_of (n := n - m) (by rw [List.length_drop]; omega) (by omega) (fun c hc => hn c (List.mem_of_mem_drop hc))]
    simp

theorem mk_notAgg : ∀ {fs : List Lf} (d : Tu fs), ∀ c ∈ Tu.mk fs d, notAgg c = true
  | [], _, c, h => by simp [Tu.mk] at h
  | [f], d, c, h => by
    simp [Tu.mk] at h
    subst h
    cases f <;> rfl
  | f :: g :: r, d, c, h => by
    simp only [Tu.mk] at h
    rcases List.mem_cons.1 h with rfl | h
    · cases f <;> rfl
    · exact mk_notAgg (fs := g :: r) d.2 c h

def shOk (sh : Shp) (fs : List Lf) : Bool := decide ((sh.map fun x => x.getD 1).sum = fs.length) && Tu.ok fs

theorem FS.dec_of (p : FS) (hok : shOk p.sh p.fs = true) (d : Tu p.fs) (h : p.pre d) : p.dec (p.args d) [] = some d := by
  unfold shOk at hok
  simp only [Bool.and_eq_true, decide_eq_true_eq] at hok
  unfold FS.dec FS.args
  simp only
  rw [flatA_of (Tu.mk_length _ _) hok.1 (mk_notAgg d)]
  simp only [Tu.mk_length, if_true]
  have := Tu.dec_of hok.2 d []
  rw [List.append_nil] at this
  simp only [this, if_pos h]

theorem oK_fs {R : Type} (p : FS) (d : Tu p.fs) (h : p.pre d) {k : Tu p.fs → Option R} {z : Option R} (hz : k d = z) (hok : shOk p.sh p.fs = true := by decide) : oK (p.pk.dec (p.args d) []) k = z := by
  show oK (p.dec (p.args d) []) k = z
  rw [FS.dec_of p hok d h, oK_some]
  exact hz

theorem oK_fsq {R : Type} (p : FS) (d : Tu p.fs) (h : p.pre d) {k : Tu p.fs → Option R} {Q : Option R → Prop} (hz : Q (k d)) (hok : shOk p.sh p.fs = true := by decide) : Q (oK (p.dec (p.args d) []) k) := by
  rw [FS.dec_of p hok d h, oK_some]
  exact hz

section
variable {P : Program}
/-- A function's text, once, with all that is told of others; what is new comes back as a value, or as it is. -/
def unitQ (P : Program) (cfg : Cfg) (pk : PKs) (lp : LPs) (o : Bool) (f : FuncId) (args : List AV) (out : List Blk) : Option Ret :=
  funcK P (cfg.with pk) (evF P (cfg.with pk) 20) (evK P cfg pk 20) lp f args out fun q => if o then some q else pureRetK q some

theorem unitQ_ok {cfg : Cfg} {pk : PKs} {lp : LPs} {o : Bool} {f : FuncId} (hp : pk f = none) (hl : FLoopsOk P (cfg.with pk) (evF P (cfg.with pk) 20) lp f) {args : List AV} {out : List Blk} {r : Ret} (h : unitQ P cfg pk lp o f args out = some r) :
    ∃ q, evF P (cfg.with pk) 21 f args out = some q ∧ (q = r ∨ pureRet q = some r) := by
  obtain ⟨q, h1, h2⟩ := funcK_ok (evK_ok 20) hl h
  have : (cfg.with pk).prim f = none := by simp only [Cfg.with, hp]
  refine ⟨q, by simp only [evF, this]; exact h1, ?_⟩
  split at h2
  · cases h2; exact .inl rfl
  · obtain ⟨p, h3, h4⟩ := pureRetK_ok h2
    cases h4
    exact .inr h3

theorem PKsOk.fs {cfg : Cfg} {pk : PKs} (h : PKsOk P pk) (hF : FnOk P (evF P (cfg.with pk) 21)) (f : FuncId) (hf : pk f = Option.none) (lp : LPs) (hl : FLoopsOk P (cfg.with pk) (evF P (cfg.with pk) 20) lp f) (p : FS)
    (hu : ∀ d, p.pre d → unitQ P cfg pk lp p.own.isSome f (p.args d) [] = some (p.ret d)) : PKsOk P (pk.add f p.pk) :=
  h.addW hF fun args out d hd => by
    obtain ⟨rfl, rfl, hp⟩ := FS.dec_ok hd
    obtain ⟨q, h1, h2⟩ := unitQ_ok hf hl (hu d hp)
    exact ⟨by simp, q, h1, h2⟩
end
end Go.Ab
