/- A part of the proof: an evaluator of code on values and its soundness. -/
import Derived.Test.YtlomiepgghlhbaaAbK3
import Derived.IntWalk
set_option linter.unusedVariables false
set_option linter.unusedSimpArgs false
/- What comes back of a call, as a value alone. -/
namespace Go.Ab
open Go

def pureT (bs : List (Nat × Blk)) : AV → Option AV
  | .tup vs => match mapO (pureA bs) vs with
    | some l => some (.tup l)
    | none => none
  | v => pureA bs v

def outKeys (n : Nat) : List Nat := (List.range n).map (outBase + ·)

/-- What is new is a value, and nobody's. -/
def pureRet (r : Ret) : Option Ret :=
  if r.out.length ≤ 1000 ∧ (rowsT r.res).all (fun b => decide (newBase ≤ b)) = true ∧ (r.out.all fun x => x.es.all (okRefs (outKeys r.out.length))) = true then
    match pureT (withKeys newBase 0 r.new) r.res with
    | some v => some { pan := r.pan, res := v, out := r.out, new := [] }
    | none => none
  else none

section
variable {R : Type}

def pureTK (bs : List (Nat × Blk)) (a : AV) (K : AV → Option R) : Option R :=
  match a with
  | .tup vs => mapK (pureAK bs) vs fun l => K (.tup l)
  | a => pureAK bs a K

theorem pureTK_ok {bs : List (Nat × Blk)} (a : AV) (K : AV → Option R) (r : R) (h : pureTK bs a K = some r) : ∃ b, pureT bs a = some b ∧ K b = some r := by
  unfold pureTK at h
  split at h
  · obtain ⟨l, h1, h2⟩ := mapK_ok pureAK_ok h
    exact ⟨_, by simp only [pureT, h1], h2⟩
  · rename_i hn
    obtain ⟨b, h1, h2⟩ := pureAK_ok _ _ _ h
    refine ⟨b, ?_, h2⟩
    unfold pureT
    split
    · exact absurd rfl (hn _)
    · exact h1

def pureRetK (r : Ret) (K : Ret → Option R) : Option R :=
  if r.out.length ≤ 1000 ∧ (rowsT r.res).all (fun b => decide (newBase ≤ b)) = true ∧ (r.out.all fun x => x.es.all (okRefs (outKeys r.out.length))) = true then
    pureTK (withKeys newBase 0 r.new) r.res fun v => K { pan := r.pan, res := v, out := r.out, new := [] }
  else none

theorem pureRetK_ok {q : Ret} {K : Ret → Option R} {r : R} (h : pureRetK q K = some r) : ∃ p, pureRet q = some p ∧ K p = some r := by
  unfold pureRetK at h
  split at h
  · rename_i hc
    obtain ⟨v, h1, h2⟩ := pureTK_ok _ _ _ h
    exact ⟨_, by unfold pureRet; rw [if_pos hc]; simp only [h1], h2⟩
  · cases h
end

section
variable {P : Program} {w0 : World} {G X Lo : Nat → Prop}

theorem pureC_congrW {S S' : List (Nat × Blk)} {a a' : AV} (h : ∀ b ∈ rowsC a, look S b = look S' b) (hp : pureC S a = some a') : pureC S' a = some a' := by
  unfold pureC at hp ⊢
  split at hp
  · cases hp
  · cases hp
  · rename_i h1 h2
    cases a with
    | sref b v off len =>
      simp only [renC, pureM, ldBlk] at hp ⊢
      rw [← h b (by simp [rowsC])]
      exact hp
    | eptr e o => exact absurd rfl (h1 _ _)
    | ptr b v i o => exact absurd rfl (h2 _ _ _ _)
    | fn f a b => cases a <;> cases b <;> exact hp
    | _ => exact hp

theorem mapO_congrW {α β : Type} {f g : α → Option β} : ∀ {l : List α} {r : List β}, (∀ a ∈ l, ∀ b, f a = some b → g a = some b) → mapO f l = some r → mapO g l = some r
  | [], r, _, h => h
  | a :: l, r, hf, h => by
    unfold mapO at h ⊢
    split at h
    · rename_i b hb
      rw [hf a (by simp) b hb]
      split at h
      · rename_i bs hbs
        cases h
        rw [mapO_congrW (fun a ha b hb => hf a (by simp [ha]) b hb) hbs]
      · cases h
    · cases h

theorem pureA_congrW {S S' : List (Nat × Blk)} {a a' : AV} (h : ∀ b ∈ rowsA a, look S b = look S' b) (hp : pureA S a = some a') : pureA S' a = some a' := by
  unfold pureA at hp ⊢
  split at hp
  · rename_i cs
    split at hp
    · rename_i l hl
      cases hp
      rw [mapO_congrW (fun c hc b hb => pureC_congrW (fun k hk => h k ?_) hb) hl]
      simp only [rowsA, List.mem_flatMap]
      exact ⟨c, hc, hk⟩
    · cases hp
  · rename_i hna
    refine pureC_congrW (fun b hb => h b ?_) hp
    cases a <;> first | exact hb | exact absurd rfl (hna _)

theorem pureT_ok {c : Cx} (h : WR w0 G X Lo c) {l : List Nat} {c' : Cx} (f : FrzTo w0 G X Lo c c' l) {a a' : AV} {v : Value} (hl : ∀ b ∈ rowsT a, b ∈ l) (hv : V c a v) (hr : pureT c.S a = some a') : PV c'.w c'.F a' v := by
  unfold pureT at hr
  split at hr
  · rename_i vs
    split at hr
    · rename_i r hr'
      cases hr
      obtain ⟨us, rfl, h1, h3⟩ := hv.tup_inv
      have key : ∀ (as rs : List AV) (us : List Value), (∀ b ∈ as.flatMap rowsA, b ∈ l) → VL c as us → mapO (pureA c.S) as = some rs → rs.length = us.length ∧ ∀ (i : Nat) a v, rs[i]? = some a → us[i]? = some v → PV c'.w c'.F a v := by
        intro as
        induction as with
        | nil =>
          intro rs us _ hv hr
          simp [mapO] at hr; subst hr
          have : us = [] := List.eq_nil_of_length_eq_zero (by simpa using hv.1.symm)
          subst this
          exact ⟨rfl, fun _ _ _ h => by simp at h⟩
        | cons a as ih =>
          intro rs us hl hv hr
          obtain ⟨u, us', rfl, g1, g2⟩ := VL.of_cons hv
          unfold mapO at hr
          split at hr
          · rename_i b hb
            split at hr
            · rename_i bs hbs
              cases hr
              obtain ⟨i1, i2⟩ := ih bs us' (fun b hb => hl b (by simp only [List.flatMap_cons, List.mem_append]; exact .inr hb)) g2 hbs
              have p1 := (pureA_ok h f (fun b hb => hl b (by simp only [List.flatMap_cons, List.mem_append]; exact .inl hb)) g1 hb).1
              refine ⟨by simp [i1], fun i x y e1 e2 => ?_⟩
              cases i with
              | zero => simp at e1 e2; subst e1; subst e2; exact p1
              | succ i => simp at e1 e2; exact i2 i x y e1 e2
            · cases hr
          · cases hr
      obtain ⟨q1, q2⟩ := key vs r us (by simpa [rowsT] using hl) ⟨h1, h3⟩ hr'
      exact .tup r us q1 q2
    · cases hr
  · rename_i hnt
    refine (pureA_ok h f (fun b hb => hl b ?_) hv hr).1
    cases a <;> first | exact hb | exact absurd rfl (hnt _)

theorem weaken_ok {c : Cx} {r r' : Ret} {e : Ending} {w' : World} {out : List Blk} (h : CallPost w0 G X Lo c r e w') (hc : c.S = outerSt out) (hlen : out.length ≤ 1000) (hp : pureRet r = some r') : CallPost w0 G X Lo c r' e w' := by
  obtain ⟨c1, v, rfl, hS, hW, hL, hV, he⟩ := h
  unfold pureRet at hp
  split at hp
  case isFalse => cases hp
  rename_i hcond
  obtain ⟨h1, h2, h3⟩ := hcond
  split at hp
  case h_2 => cases hp
  rename_i v' hv'
  cases hp
  have hrows : ∀ b ∈ rowsT r.res, newBase ≤ b := fun b hb => of_decide_eq_true (List.all_eq_true.1 h2 b hb)
  obtain ⟨c2, F⟩ := freezeTo hW (rowsT r.res)
  have hout : ∀ b, b < newBase → look c1.S b = look (outerSt r.out) b := by
    intro b hb
    rw [hS, look_app, look_withKeys]
    rw [if_neg (by omega)]
    split <;> simp_all
  have hnew : ∀ b, newBase ≤ b → look c1.S b = look (withKeys newBase 0 r.new) b := by
    intro b hb
    rw [hS, look_app]
    have : look (outerSt r.out) b = none := by
      unfold outerSt
      rw [look_withKeys]
      split
      · rw [List.getElem?_eq_none]
        simp [outBase, newBase] at hb ⊢
        omega
      · rfl
    rw [this]
  have hlt : ∀ b x, look (outerSt r.out) b = some x → b < newBase ∧ b ∈ outKeys r.out.length := by
    intro b x hb
    unfold outerSt at hb
    rw [look_withKeys] at hb
    split at hb
    · rename_i hle
      have := (List.getElem?_eq_some_iff.1 hb).1
      refine ⟨by simp [outBase, newBase] at hle this ⊢; omega, ?_⟩
      simp only [outKeys, List.mem_map, List.mem_range]
      exact ⟨b - (outBase + 0), this, by simp at hle ⊢; omega⟩
    · cases hb
  have hc2 : ∀ b, b < newBase → look c2.S b = look (outerSt r.out) b := by
    intro b hb
    rw [F.S, look_freeze, hout b hb]
    have : b ∉ rowsT r.res := fun hm => by have := hrows b hm; omega
    simp [this]
  let c3 : Cx := { w := c2.w, R := c2.R, S := outerSt r.out, F := fOf X c2.R (outerSt r.out) }
  have hsub : ∀ b x, look c3.S b = some x → look c2.S b = some x := fun b x hb => by rw [hc2 b (hlt b x hb).1]; exact hb
  have K : Keep c2 c3 := by
    refine ⟨rfl, rfl, ?_, hsub⟩
    rintro i (hx | ⟨b, x, g1, g2, g3, g4⟩)
    · exact (F.wr.hF i).2 (.inl hx)
    · exact (F.wr.hF i).2 (.inr ⟨b, x, hsub b x g1, g2, g3, g4⟩)
  have hall : ∀ b ∈ outKeys r.out.length, look c3.S b = look c2.S b := by
    intro b hb
    simp only [outKeys, List.mem_map, List.mem_range] at hb
    obtain ⟨i, hi, rfl⟩ := hb
    rw [hc2 _ (by simp [outBase, newBase]; omega)]
  have hW3 : WR w0 G X Lo c3 := by
    refine ⟨F.wr.size, F.wr.kept, F.wr.os, F.wr.out, F.wr.xs, fun b x hb hd => F.wr.own b x (hsub b x hb) hd, fun b x hb hd => F.wr.low b x (hsub b x hb) hd,
      fun b b' x x' hb hd hb' hd' e => F.wr.inj b b' x x' (hsub b x hb) hd (hsub b' x' hb') hd' e, fun b x hb hd => ?_, fun _ => Iff.rfl⟩
    obtain ⟨cells, t, lo, hi, g1, g2, g3, g4⟩ := (F.wr.blk b x (hsub b x hb) hd).here
    refine ⟨cells, t, lo, hi, g1, g2, fun hk => ?_, fun hk => ⟨(g4 hk).1, fun k a ha => let ⟨v, v1, v2⟩ := (g4 hk).2 k a ha; ⟨v, v1, K.pv v2⟩⟩⟩
    intro k a ha
    obtain ⟨q1, v, q2, q3⟩ := g3 hk k a ha
    have hx : x ∈ r.out := by
      have hb' : look (outerSt r.out) b = some x := hb
      unfold outerSt at hb'
      rw [look_withKeys] at hb'
      split at hb'
      · exact List.mem_of_getElem? hb'
      · cases hb'
    have := List.all_eq_true.1 h3 x hx
    exact ⟨q1, v, q2, K.v hall (List.all_eq_true.1 this a (List.mem_of_getElem? ha)) q3⟩
  have hL2 : Le c c2 := hL.trans F.le
  refine ⟨c3, v, F.w, by simp [withKeys, c3], hW3, ?_, ?_, he⟩
  · refine ⟨hL2.size, fun b hb hf hf' => hL2.hF b hb hf (K.F b hf'), hL2.hw, fun b x hx => ?_⟩
    obtain ⟨x', g1, g2, g3⟩ := hL2.hS b x hx
    refine ⟨x', ?_, g2, g3⟩
    have hb : b < newBase := by
      rw [hc] at hx
      unfold outerSt at hx
      rw [look_withKeys] at hx
      split at hx
      · rename_i hle
        have := (List.getElem?_eq_some_iff.1 hx).1
        simp [outBase, newBase] at hle this ⊢
        omega
      · cases hx
    rw [← hc2 b hb]; exact g1
  · refine .pure (K.pv (pureT_ok hW F (fun b hb => hb) hV ?_))
    unfold pureT at hv' ⊢
    cases hres : r.res with
    | tup vs =>
      rw [hres] at hv' hrows
      simp only at hv' ⊢
      split at hv'
      · rename_i l hl
        cases hv'
        rw [mapO_congrW (fun a ha b hb => pureA_congrW (fun k hk => ?_) hb) hl]
        have hk' : k ∈ rowsT (.tup vs) := by simp only [rowsT, List.mem_flatMap]; exact ⟨a, ha, hk⟩
        rw [hnew k (hrows k hk')]
      · cases hv'
    | _ =>
      rw [hres] at hv' hrows
      simp only at hv' ⊢
      refine pureA_congrW (fun k hk => ?_) hv'
      rw [hnew k (hrows k hk)]

/-- What is told of a function, as values. -/
theorem PKsOk.addW {pk : PKs} (h : PKsOk P pk) {f : FuncId} {p : PK} {callF : CallF} (hF : FnOk P callF)
    (hp : ∀ args out d, p.dec args out = some d → out.length ≤ 1000 ∧ ∃ r, callF f args out = some r ∧ (r = (p.out d).val ∨ pureRet r = some (p.out d).val)) : PKsOk P (pk.add f p) := by
  intro g q hq
  unfold PKs.add at hq
  split at hq
  · rename_i hg
    cases hq
    subst hg
    intro args out r hr
    unfold PK.G at hr
    split at hr
    · rename_i d hd
      cases hr
      obtain ⟨hl, r, hc, hr⟩ := hp _ _ _ hd
      refine ⟨hF.there hc, fun hS hout hW hv => ?_⟩
      rcases hr with rfl | hr
      · exact hF.ok hc hS hout hW hv
      · exact (hF.ok hc hS hout hW hv).mono fun e w' hpost => weaken_ok hpost hS hl hr
    · cases hr
  · exact h g q hq
end
end Go.Ab
/- What is told of functions, in kinds: numbers, texts, lists. -/
namespace Go.Ab
open Go

/-- What is in a list. -/
abbrev Lf.L : Lf → Type
  | .fl _ ks => List (Tu ks)
  | _ => Unit

mutual
def Lf.ok : Lf → Bool
  | .fl agg fs => (agg || fs.length == 1) && Tu.ok fs
  | _ => true
def Tu.ok : List Lf → Bool
  | [] => true
  | f :: r => f.ok && Tu.ok r
end

def okV (agg : Bool) (fs : List Lf) : Bool := (agg || fs.length == 1) && Tu.ok fs

theorem unA_of {agg : Bool} {fs : List Lf} (h : (agg || fs.length == 1) = true) (d : Tu fs) : unA agg fs.length (mkA agg (Tu.mk fs d)) = some (Tu.mk fs d) := by
  cases agg with
  | true => simp [unA, mkA, Tu.mk_length]
  | false =>
    have : fs.length = 1 := by simpa using h
    match fs, this with
    | [f], _ =>
      simp only [unA, mkA, Tu.mk, List.length_cons, List.length_nil]
      cases f <;> rfl

mutual
theorem Lf.dec_of : ∀ {f : Lf} (_ : f.ok = true) (x : f.T), f.dec (f.mk x) = some x
  | .fb, _, x => rfl
  | .fi k, _, x => by simp [Lf.dec, Lf.mk]
  | .fs, _, x => rfl
  | .fl agg fs, h, (x, l) => by
    simp only [Lf.ok, Bool.and_eq_true] at h
    have key : ∀ l : List (Tu fs), mapO (fun v => match unA agg fs.length v with
      | some cs => Tu.dec fs cs
      | none => none) (l.map fun d => mkA agg (Tu.mk fs d)) = some l := by
      intro l
      induction l with
      | nil => rfl
      | cons d l ih =>
        have h2 := Tu.dec_of h.2 d []
        rw [List.append_nil] at h2
        simp only [List.map_cons, mapO, unA_of h.1, h2, ih]
    simp only [Lf.dec, Lf.mk]
    split
    · rename_i l' hl
      have := (key l).symm.trans hl
      cases this; rfl
    · rename_i hl
      have := (key l).symm.trans hl
      cases this
theorem Tu.dec_of : ∀ {fs : List Lf} (_ : Tu.ok fs = true) (d : Tu fs) (r : List AV), Tu.dec fs (Tu.mk fs d ++ r) = some d
  | [], _, d, r => by cases d; rfl
  | [f], h, d, r => by
    simp only [Tu.ok, Bool.and_true] at h
    simp only [Tu.mk, List.cons_append, Tu.dec, Lf.dec_of h]
  | f :: g :: fs, h, (x, y), r => by
    have h1 : f.ok = true ∧ Tu.ok (g :: fs) = true := by simpa only [Tu.ok, Bool.and_eq_true] using h
    have := Tu.dec_of h1.2 y r
    simp only [Tu.mk, List.cons_append, Tu.dec, Lf.dec_of h1.1, this]
end

theorem decV_of {agg : Bool} {fs : List Lf} (h : okV agg fs = true) (d : Tu fs) : decV agg fs (mkV agg fs d) = some d := by
  simp only [okV, Bool.and_eq_true] at h
  unfold decV mkV
  rw [unA_of h.1]
  have := Tu.dec_of h.2 d []
  rwa [List.append_nil] at this

theorem dec_fl {agg : Bool} {fs : List Lf} (h : okV agg fs = true) (x : Bool) (l : List (Tu fs)) : (Lf.fl agg fs).dec (.slc x (l.map (mkV agg fs))) = some (x, l) :=
  Lf.dec_of (f := .fl agg fs) h (x, l)
theorem dec_fl_nil {agg : Bool} {fs : List Lf} (x : Bool) : (Lf.fl agg fs).dec (.slc x []) = some (x, []) := rfl
theorem dec_fi {k : IntKind} {n : Int} : (Lf.fi k).dec (.int k n) = some n := by simp [Lf.dec]
theorem dec_fb {b : Bool} : Lf.fb.dec (.bool b) = some b := rfl
theorem dec_fs {s : List UInt8} : Lf.fs.dec (.str s) = some s := rfl

theorem elemAt_map {agg : Bool} {fs : List Lf} (h : okV agg fs = true) (l : List (Tu fs)) (n : Int) : elemAt agg fs (l.map (mkV agg fs)) n = if 0 ≤ n then l[n.toNat]? else none := by
  unfold elemAt
  split
  · rw [List.getElem?_map]
    cases l[n.toNat]? with
    | none => rfl
    | some d => exact decV_of h d
  · rfl

theorem ldCells_mk {agg : Bool} {fs : List Lf} (h : Tu.ok fs = true) (d : Tu fs) : ldCells fs (Tu.mk fs d) 0 = some d := by
  have := Tu.dec_of h d []
  rw [List.append_nil] at this
  exact this

abbrev Shp := List (Option Nat)
def groupA : Shp → List AV → List AV
  | [], _ => []
  | none :: r, c :: cs => c :: groupA r cs
  | none :: _, [] => [.undef]
  | some n :: r, cs => .agg (cs.take n) :: groupA r (cs.drop n)
def notAgg : AV → Bool
  | .agg _ => false
  | _ => true
def flatA : Shp → List AV → Option (List AV)
  | [], [] => some []
  | none :: r, v :: vs => if notAgg v then match flatA r vs with
      | some cs => some (v :: cs)
      | none => none
    else none
  | some n :: r, .agg cs :: vs => if cs.length = n then match flatA r vs with
      | some l => some (cs ++ l)
      | none => none
    else none
  | _, _ => none

theorem flatA_group : ∀ {sh : Shp} {vs cs : List AV}, flatA sh vs = some cs → vs = groupA sh cs
  | [], [], cs, h => by cases h; rfl
  | [], _ :: _, cs, h => by cases h
  | none :: r, [], cs, h => by cases h
  | none :: r, v :: vs, cs, h => by
    simp only [flatA] at h
    split at h
    · split at h
      · rename_i l hl
        cases h
        simp only [groupA, ← flatA_group hl]
      · cases h
    · cases h
  | some n :: r, [], cs, h => by cases h
  | some n :: r, v :: vs, cs, h => by
    cases v <;> simp only [flatA] at h <;> try (cases h; done)
    split at h
    · rename_i hn
      split at h
      · rename_i l hl
        cases h
        subst hn
        simp [groupA, ← flatA_group hl]
      · cases h
    · cases h

def resA (sh : Shp) (cs : List AV) : AV := match groupA sh cs with
  | [v] => v
  | vs => .tup vs

def emptyAt (j : Nat) (cs : List AV) : Bool := match cs[j]? with
  | some (.slc _ es) => es.isEmpty
  | _ => true
def rowAt' (j sz : Nat) (cs : List AV) : List Blk := match cs[j]? with
  | some (.slc _ es) => [{ v := 0, k := .row, fz := false, sz := sz, es := es }]
  | _ => []
def srefAt (j : Nat) (cs : List AV) : List AV := match cs[j]? with
  | some (.slc _ es) => cs.set j (.sref newBase 0 0 es.length)
  | _ => cs

/-- The results; a list among them may be the caller's own. -/
def ownAlt (own : Option (Nat × Nat)) (rsh : Shp) (cs : List AV) (out : List Blk) : Alt Ret :=
  match own with
  | none => .leaf { pan := false, res := resA rsh cs, out := out, new := [] }
  | some (j, sz) => .ite (emptyAt j cs) (.leaf { pan := false, res := resA rsh (cs.set j (.slc true [])), out := out, new := [] })
      (.leaf { pan := false, res := resA rsh (srefAt j cs), out := out, new := rowAt' j sz cs })

theorem own_one {α : Type} {f : α → AV} {sz : Nat} {x : Bool} {l : List α} {out : List Blk} : (ownAlt (some (0, sz)) [none] [.slc x (l.map f)] out).val =
    if l = [] then { pan := false, res := .slc true [], out := out, new := [] } else { pan := false, res := .sref newBase 0 0 l.length, out := out, new := [{ v := 0, k := .row, fz := false, sz := sz, es := l.map f }] } := by
  cases l with
  | nil => rfl
  | cons a l =>
    simp only [ownAlt, Alt.val, emptyAt, srefAt, rowAt', List.getElem?_cons_zero, List.map_cons, List.isEmpty_cons, Bool.false_eq_true, if_false, List.set_cons_zero, resA, groupA, List.length_cons, List.length_map, reduceCtorEq]

/-- A function of values to values. -/
structure FS where
  sh : Shp
  fs : List Lf
  rsh : Shp
  rfs : List Lf
  pre : Tu fs → Prop
  F : Tu fs → Tu rfs
  own : Option (Nat × Nat) := none

def FS.out (p : FS) (y : Tu p.rfs) : Ret := { pan := false, res := resA p.rsh (Tu.mk p.rfs y), out := [], new := [] }
def FS.alts (p : FS) (d : Tu p.fs) : Alt Ret := ownAlt p.own p.rsh (Tu.mk p.rfs (p.F d)) []
def FS.ret (p : FS) (d : Tu p.fs) : Ret := (p.alts d).val
def FS.args (p : FS) (d : Tu p.fs) : List AV := groupA p.sh (Tu.mk p.fs d)
open Classical in
noncomputable def FS.dec (p : FS) (args : List AV) (out : List Blk) : Option (Tu p.fs) := match out with
  | [] => match flatA p.sh args with
    | some cs => if cs.length = p.fs.length then match Tu.dec p.fs cs with
        | some d => if p.pre d then some d else none
        | none => none
      else none
    | none => none
  | _ => none
noncomputable def FS.pk (p : FS) : PK := { D := Tu p.fs, dec := p.dec, out := p.alts }

theorem FS.dec_ok {p : FS} {args : List AV} {out : List Blk} {d : Tu p.fs} (h : p.dec args out = some d) : out = [] ∧ args = p.args d ∧ p.pre d := by
  unfold FS.dec at h
  split at h
  · split at h
    · rename_i cs hcs
      split at h
      · rename_i hl
        split at h
        · rename_i d' hd
          split at h
          · rename_i hp
            cases h
            refine ⟨rfl, ?_, hp⟩
            obtain ⟨h1, _⟩ := Tu.dec_mk hd
            rw [← hl, List.take_length] at h1
            rw [flatA_group hcs, h1]; rfl
          · cases h
        · cases h
      · cases h
    · cases h
  · cases h

theorem flatA_of : ∀ {sh : Shp} {cs : List AV} {n : Nat}, cs.length = n → (sh.map fun x => x.getD 1).sum = n → (∀ c ∈ cs, notAgg c = true) → flatA sh (groupA sh cs) = some cs
  | [], cs, n, h, h', _ => by
    simp at h'
    subst h'
    rw [List.eq_nil_of_length_eq_zero h]; rfl
  | none :: r, [], n, h, h', _ => by simp at h h'; omega
  | none :: r, c :: cs, n, h, h', hn => by
    simp at h h'
    simp only [groupA, flatA, hn c (by simp), if_true]
    rw [flatA_of (n := cs.length) rfl (by omega) (fun c hc => hn c (by simp [hc]))]
  | some m :: r, cs, n, h, h', hn => by
    simp at h h'
    have e : groupA (some m :: r) cs = .agg (cs.take m) :: groupA r (cs.drop m) := by cases cs <;> rfl
    rw [e]
    simp only [flatA]
    rw [if_pos (by rw [List.length_take]; omega), flatA_of (n := n - m) (by rw [List.length_drop]; omega) (by omega) (fun c hc => hn c (List.mem_of_mem_drop hc))]
    simp

theorem mk_notAgg : ∀ {fs : List Lf} (d : Tu fs), ∀ c ∈ Tu.mk fs d, notAgg c = true
  | [], _, c, h => by simp [Tu.mk] at h
  | [f], d, c, h => by
    simp [Tu.mk] at h
    subst h
    cases f <;> rfl
  | f :: g :: r, d, c, h => by
    simp only [Tu.mk] at h
    rcases List.mem_cons.1 h with rfl | h
    · cases f <;> rfl
    · exact mk_notAgg (fs := g :: r) d.2 c h

def shOk (sh : Shp) (fs : List Lf) : Bool := decide ((sh.map fun x => x.getD 1).sum = fs.length) && Tu.ok fs

theorem FS.dec_of (p : FS) (hok : shOk p.sh p.fs = true) (d : Tu p.fs) (h : p.pre d) : p.dec (p.args d) [] = some d := by
  unfold shOk at hok
  simp only [Bool.and_eq_true, decide_eq_true_eq] at hok
  unfold FS.dec FS.args
  simp only
  rw [flatA_of (Tu.mk_length _ _) hok.1 (mk_notAgg d)]
  simp only [Tu.mk_length, if_true]
  have := Tu.dec_of hok.2 d []
  rw [List.append_nil] at this
  simp only [this, if_pos h]

theorem oK_fs {R : Type} (p : FS) (d : Tu p.fs) (h : p.pre d) {k : Tu p.fs → Option R} {z : Option R} (hz : k d = z) (hok : shOk p.sh p.fs = true := by decide) : oK (p.pk.dec (p.args d) []) k = z := by
  show oK (p.dec (p.args d) []) k = z
  rw [FS.dec_of p hok d h, oK_some]
  exact hz

theorem oK_fsq {R : Type} (p : FS) (d : Tu p.fs) (h : p.pre d) {k : Tu p.fs → Option R} {Q : Option R → Prop} (hz : Q (k d)) (hok : shOk p.sh p.fs = true := by decide) : Q (oK (p.dec (p.args d) []) k) := by
  rw [FS.dec_of p hok d h, oK_some]
  exact hz

section
variable {P : Program}
/-- A function's text, once, with all that is told of others; what is new comes back as a value, or as it is. -/
def unitQ (P : Program) (cfg : Cfg) (pk : PKs) (lp : LPs) (o : Bool) (f : FuncId) (args : List AV) (out : List Blk) : Option Ret :=
  funcK P (cfg.with pk) (evF P (cfg.with pk) 20) (evK P cfg pk 20) lp f args out fun q => if o then some q else pureRetK q some

theorem unitQ_ok {cfg : Cfg} {pk : PKs} {lp : LPs} {o : Bool} {f : FuncId} (hp : pk f = none) (hl : FLoopsOk P (cfg.with pk) (evF P (cfg.with pk) 20) lp f) {args : List AV} {out : List Blk} {r : Ret} (h : unitQ P cfg pk lp o f args out = some r) :
    ∃ q, evF P (cfg.with pk) 21 f args out = some q ∧ (q = r ∨ pureRet q = some r) := by
  obtain ⟨q, h1, h2⟩ := funcK_ok (evK_ok 20) hl h
  have : (cfg.with pk).prim f = none := by simp only [Cfg.with, hp]
  refine ⟨q, by simp only [evF, this]; exact h1, ?_⟩
  split at h2
  · cases h2; exact .inl rfl
  · obtain ⟨p, h3, h4⟩ := pureRetK_ok h2
    cases h4
    exact .inr h3

theorem PKsOk.fs {cfg : Cfg} {pk : PKs} (h : PKsOk P pk) (hF : FnOk P (evF P (cfg.with pk) 21)) (f : FuncId) (hf : pk f = Option.none) (lp : LPs) (hl : FLoopsOk P (cfg.with pk) (evF P (cfg.with pk) 20) lp f) (p : FS)
    (hu : ∀ d, p.pre d → unitQ P cfg pk lp p.own.isSome f (p.args d) [] = some (p.ret d)) : PKsOk P (pk.add f p.pk) :=
  h.addW hF fun args out d hd => by
    obtain ⟨rfl, rfl, hp⟩ := FS.dec_ok hd
    obtain ⟨q, h1, h2⟩ := unitQ_ok hf hl (hu d hp)
    exact ⟨by simp, q, h1, h2⟩
end
end Go.Ab
/- Laws on tests, on numbers of a width, on lists of kinds. -/
namespace Go.Ab
open Go

section
variable {R : Type}
theorem bK_if {b : Bool} {x y : Option R} : bK b x y = if b = true then x else y := by cases b <;> rfl
theorem bK_pos {b : Bool} {x y : Option R} (h : b = true) : bK b x y = x := by rw [h]; rfl
theorem bK_neg {b : Bool} {x y : Option R} (h : b = false) : bK b x y = y := by rw [h]; rfl
theorem bK_dec {p : Prop} [Decidable p] {x y : Option R} : bK (decide p) x y = if p then x else y := by
  by_cases h : p <;> simp [h, bK]
theorem bK_ndec {p : Prop} [Decidable p] {x y : Option R} : bK (!decide p) x y = if p then y else x := by
  by_cases h : p <;> simp [h, bK]
theorem bK_i {p : Prop} [Decidable p] {x y z : Option R} (h1 : p → x = z) (h2 : ¬ p → y = z) : bK (decide p) x y = z := by
  by_cases h : p
  · rw [decide_eq_true h]; exact h1 h
  · rw [decide_eq_false h]; exact h2 h
theorem bK_n {p : Prop} [Decidable p] {x y z : Option R} (h1 : ¬ p → x = z) (h2 : p → y = z) : bK (!decide p) x y = z := by
  by_cases h : p
  · rw [decide_eq_true h]; exact h2 h
  · rw [decide_eq_false h]; exact h1 h
theorem bK_b {b : Bool} {x y z : Option R} (h1 : b = true → x = z) (h2 : b = false → y = z) : bK b x y = z := by
  cases b
  · exact h2 rfl
  · exact h1 rfl
theorem bK_iq {p : Prop} [Decidable p] {x y : Option R} {Q : Option R → Prop} (h1 : p → Q x) (h2 : ¬ p → Q y) : Q (bK (decide p) x y) := by
  by_cases h : p
  · rw [decide_eq_true h]; exact h1 h
  · rw [decide_eq_false h]; exact h2 h
theorem bK_nq {p : Prop} [Decidable p] {x y : Option R} {Q : Option R → Prop} (h1 : ¬ p → Q x) (h2 : p → Q y) : Q (bK (!decide p) x y) := by
  by_cases h : p
  · rw [decide_eq_true h]; exact h2 h
  · rw [decide_eq_false h]; exact h1 h
theorem bK_bq {b : Bool} {x y : Option R} {Q : Option R → Prop} (h1 : b = true → Q x) (h2 : b = false → Q y) : Q (bK b x y) := by
  cases b
  · exact h2 rfl
  · exact h1 rfl
theorem bK_tq {b : Bool} {x y : Option R} {Q : Option R → Prop} (h : b = true) (h1 : Q x) : Q (bK b x y) := by rw [h]; exact h1
theorem bK_fq {b : Bool} {x y : Option R} {Q : Option R → Prop} (h : b = false) (h1 : Q y) : Q (bK b x y) := by rw [h]; exact h1
theorem oK_q {α : Type} {o : Option α} {a : α} {k : α → Option R} {Q : Option R → Prop} (h : o = some a) (h1 : Q (k a)) : Q (oK o k) := by rw [h]; exact h1
theorem oK_atq {agg : Bool} {fs : List Lf} {l : List (Tu fs)} {n : Int} {k : Tu fs → Option R} {Q : Option R → Prop} (x : Tu fs) (h0 : 0 ≤ n) (h1 : n.toNat < l.length) (h : Q (k (l.getD n.toNat x))) (hok : okV agg fs = true := by rfl) : Q (oK (elemAt agg fs (l.map (mkV agg fs)) n) k) := by
  rw [elemAt_map hok, if_pos h0, List.getElem?_eq_getElem h1]
  have : l.getD n.toNat x = l[n.toNat] := by simp [List.getD, h1]
  rw [this] at h
  exact h
theorem ite_r {α : Type} {c : Prop} [Decidable c] {x y z : α} (h1 : c → z = x) (h2 : ¬ c → z = y) : z = if c then x else y := by
  by_cases h : c
  · rw [if_pos h]; exact h1 h
  · rw [if_neg h]; exact h2 h
theorem out_ite (p : FS) {c : Prop} [Decidable c] {x y : Tu p.rfs} {z : Option Ret} (h1 : c → z = some (p.out x)) (h2 : ¬ c → z = some (p.out y)) : z = some (p.out (if c then x else y)) := by
  by_cases h : c
  · rw [if_pos h]; exact h1 h
  · rw [if_neg h]; exact h2 h
theorem oK_pos {α : Type} {o : Option α} {a : α} {k : α → Option R} (h : o = some a) : oK o k = k a := by rw [h]; rfl
theorem oK_at {agg : Bool} {fs : List Lf} (hok : okV agg fs = true) {l : List (Tu fs)} {n : Int} {k : Tu fs → Option R} (h0 : 0 ≤ n) (h1 : n.toNat < l.length) : oK (elemAt agg fs (l.map (mkV agg fs)) n) k = k l[n.toNat] := by
  rw [elemAt_map hok, if_pos h0, List.getElem?_eq_getElem h1]; rfl
theorem oK_atD {agg : Bool} {fs : List Lf} (hok : okV agg fs = true) {l : List (Tu fs)} {n : Int} {k : Tu fs → Option R} (x : Tu fs) (h0 : 0 ≤ n) (h1 : n.toNat < l.length) : oK (elemAt agg fs (l.map (mkV agg fs)) n) k = k (l.getD n.toNat x) := by
  rw [oK_at hok h0 h1]; simp [List.getD, h1]
end
theorem take_app {α : Type} (l : List α) (x : α) : List.take (l.length + 1) (List.drop 0 (List.take l.length l ++ [x])) = l ++ [x] := by
  rw [List.drop_zero, List.take_length, List.take_of_length_le (by simp)]
theorem getD_at {α : Type} {l : List α} {n : Nat} (h : n < l.length) (x : α) : l.getD n x = l[n] := by simp [List.getD, h]
theorem w64 {n : Int} (h1 : -9223372036854775808 ≤ n) (h2 : n < 9223372036854775808) : IntKind.i64.wrap n = n := IntWalk.i64_in n ⟨h1, by omega⟩
theorem w8 {n : Int} (h1 : 0 ≤ n) (h2 : n < 256) : IntKind.u8.wrap n = n := by
  simp [IntKind.wrap, IntKind.bits, IntKind.signed]; omega
end Go.Ab
/- What is read of a law's arguments, in kinds; and that it is read so still. -/
namespace Go.Ab
open Go

mutual
def Lf.wf : (f : Lf) → f.T → Prop
  | .fb, _ => True
  | .fi k, n => k.min ≤ n ∧ n ≤ k.max
  | .fs, s => s.length ≤ 9223372036854775807
  | .fl _ fs, p => p.2.length ≤ 9223372036854775807 ∧ ∀ d ∈ p.2, Tu.wf fs d
def Tu.wf : (fs : List Lf) → Tu fs → Prop
  | [], _ => True
  | [f], x => f.wf x
  | f :: g :: r, d => f.wf d.1 ∧ Tu.wf (g :: r) d.2
end

def Lf.Has (f : Lf) (a : AV) : Prop := ∃ x, a = f.mk x ∧ f.wf x
def HasL : List Lf → List AV → Prop
  | [], [] => True
  | f :: fs, a :: as => f.Has a ∧ HasL fs as
  | _, _ => False

theorem hasL_tu : ∀ {fs : List Lf} {as : List AV}, HasL fs as → ∃ d : Tu fs, Tu.mk fs d = as ∧ Tu.wf fs d
  | [], [], _ => ⟨(), rfl, trivial⟩
  | [], _ :: _, h => h.elim
  | _ :: _, [], h => h.elim
  | [f], [a], h => by
    obtain ⟨⟨x, h1, h2⟩, _⟩ := h
    exact ⟨x, by rw [h1]; rfl, h2⟩
  | [f], _ :: _ :: _, h => h.2.elim
  | f :: g :: r, a :: as, h => by
    obtain ⟨⟨x, h1, h2⟩, h3⟩ := h
    obtain ⟨d, h4, h5⟩ := hasL_tu h3
    exact ⟨(x, d), by simp only [Tu.mk, h4, h1], h2, h5⟩

theorem hasL_length : ∀ {fs : List Lf} {as : List AV}, HasL fs as → as.length = fs.length
  | [], [], _ => rfl
  | [], _ :: _, h => h.elim
  | _ :: _, [], h => h.elim
  | f :: fs, a :: as, h => by simp [hasL_length h.2]

theorem hasL_append : ∀ {fs gs : List Lf} {as bs : List AV}, HasL fs as → HasL gs bs → HasL (fs ++ gs) (as ++ bs)
  | [], _, [], _, _, h => h
  | [], _, _ :: _, _, h, _ => h.elim
  | _ :: _, _, [], _, h, _ => h.elim
  | f :: fs, gs, a :: as, bs, h, h' => ⟨h.1, hasL_append h.2 h'⟩

theorem mk_okC : ∀ (f : Lf) (x : f.T), (f.mk x).okC = true
  | .fb, _ => rfl
  | .fi _, _ => rfl
  | .fs, _ => rfl
  | .fl _ _, _ => rfl

theorem hasL_okC : ∀ {fs : List Lf} {as : List AV}, HasL fs as → ∀ a ∈ as, a.okC = true
  | [], [], _, _, h => by simp at h
  | [], _ :: _, h, _, _ => h.elim
  | _ :: _, [], h, _, _ => h.elim
  | f :: fs, a :: as, h, b, hb => by
    rcases List.mem_cons.1 hb with rfl | hb
    · obtain ⟨x, rfl, _⟩ := h.1
      exact mk_okC f x
    · exact hasL_okC h.2 b hb

theorem mk_allC : ∀ {fs : List Lf} (d : Tu fs), ∀ a ∈ Tu.mk fs d, a.okC = true
  | [], _, a, h => by simp [Tu.mk] at h
  | [f], d, a, h => by
    simp [Tu.mk] at h
    subst h
    exact mk_okC f d
  | f :: g :: r, d, a, h => by
    simp only [Tu.mk] at h
    rcases List.mem_cons.1 h with rfl | h
    · exact mk_okC f d.1
    · exact mk_allC (fs := g :: r) d.2 a h

section
variable {P : Program}

def fieldsC (P : Program) (rc : TypeId → Option (List Lf)) (sz : Nat) : List Field → Nat → Option (List Lf)
  | [], off => if off = sz then some [] else none
  | f :: r, off => if f.offset = off then match rc f.type with
      | some l => if l.length = P.cellsOf f.type then match fieldsC P rc sz r (off + l.length) with
          | some m => some (l ++ m)
          | none => none
        else none
      | none => none
    else none

/-- The kinds of a type's cells, looked at closely. -/
def leafsC (P : Program) : Nat → TypeId → Option (List Lf)
  | 0, _ => none
  | d + 1, t => match P.underlying t with
    | some .bool => some [.fb]
    | some (.int k) => some [.fi k]
    | some .string => some [.fs]
    | some (.slice e) => match leafsC P d e, isAggT P e with
      | some l, some agg => if l.length = P.cellsOf e ∧ l.length ≠ 0 ∧ (agg || l.length == 1) = true then some [.fl agg l] else none
      | _, _ => none
    | some (.struct fs) => fieldsC P (leafsC P d) (P.cellsOf t) fs.toList 0
    | some (.array n e) => match leafsC P d e with
      | some l => if l.length = P.cellsOf e ∧ n * P.cellsOf e = P.cellsOf t then some (List.replicate n l).flatten else none
      | none => none
    | _ => none

def AllPV (w : World) (as : List AV) (vs : List Value) : Prop := as.length = vs.length ∧ ∀ (i : Nat) a v, as[i]? = some a → vs[i]? = some v → PV w (fun _ => False) a v

theorem AllPV.nil {w : World} : AllPV w [] [] := ⟨rfl, fun _ _ _ h => by simp at h⟩
theorem AllPV.one {w : World} {a : AV} {v : Value} (h : PV w (fun _ => False) a v) : AllPV w [a] [v] :=
  ⟨rfl, fun i b u h1 h2 => by
    cases i with
    | zero => simp at h1 h2; subst h1; subst h2; exact h
    | succ i => simp at h1⟩
theorem AllPV.append {w : World} {as bs : List AV} {us vs : List Value} (h : AllPV w as us) (h' : AllPV w bs vs) : AllPV w (as ++ bs) (us ++ vs) := by
  refine ⟨by simp [h.1, h'.1], fun i a v h1 h2 => ?_⟩
  by_cases hi : i < as.length
  · rw [List.getElem?_append_left hi] at h1
    rw [List.getElem?_append_left (by rw [← h.1]; exact hi)] at h2
    exact h.2 i a v h1 h2
  · rw [List.getElem?_append_right (by omega)] at h1
    rw [List.getElem?_append_right (by rw [← h.1]; omega), ← h.1] at h2
    exact h'.2 _ a v h1 h2

theorem mapM_range {β : Type} {f : Nat → Option β} : ∀ (n k : Nat) (l : List β), (List.range' k n).mapM f = some l → l.length = n ∧ ∀ (i : Nat) (b : β), l[i]? = some b → f (k + i) = some b
  | 0, k, l, h => by
    simp at h; subst h
    exact ⟨rfl, fun i b h => by simp at h⟩
  | n + 1, k, l, h => by
    rw [List.range'_succ, List.mapM_cons] at h
    cases hk : f k with
    | none => simp [hk] at h
    | some b =>
      cases hr : (List.range' (k + 1) n).mapM f with
      | none => simp [hk, hr] at h
      | some r =>
        simp [hk, hr] at h
        subst h
        obtain ⟨h1, h2⟩ := mapM_range n (k + 1) r hr
        refine ⟨by simp [h1], fun i b' hi => ?_⟩
        cases i with
        | zero => simp at hi; subst hi; exact hk
        | succ i => simp at hi; have := h2 i b' hi; rwa [show k + 1 + i = k + (i + 1) by omega] at this

theorem mapM_range0 {β : Type} {f : Nat → Option β} {n : Nat} {l : List β} (h : (List.range n).mapM f = some l) : l.length = n ∧ ∀ (i : Nat) (b : β), l[i]? = some b → f i = some b := by
  rw [List.range_eq_range'] at h
  obtain ⟨h1, h2⟩ := mapM_range n 0 l h
  exact ⟨h1, fun i b hi => by have := h2 i b hi; rwa [Nat.zero_add] at this⟩

theorem mapM_list {α β : Type} {f : α → Option β} : ∀ {l : List α} {r : List β}, l.mapM f = some r → r.length = l.length ∧ ∀ (i : Nat) (a : α) (b : β), l[i]? = some a → r[i]? = some b → f a = some b
  | [], r, h => by simp at h; subst h; exact ⟨rfl, fun i a b h => by simp at h⟩
  | a :: l, r, h => by
    rw [List.mapM_cons] at h
    cases ha : f a with
    | none => simp [ha] at h
    | some b =>
      cases hr : l.mapM f with
      | none => simp [ha, hr] at h
      | some q =>
        simp [ha, hr] at h
        subst h
        obtain ⟨h1, h2⟩ := mapM_list hr
        refine ⟨by simp [h1], fun i a' b' h3 h4 => ?_⟩
        cases i with
        | zero => simp at h3 h4; subst h3; subst h4; exact ha
        | succ i => simp at h3 h4; exact h2 i a' b' h3 h4

theorem mapM_mk {α β : Type} {f g : α → Option β} : ∀ {l : List α} {r : List β}, l.mapM f = some r → (∀ a ∈ l, ∀ b ∈ r, f a = some b → g a = some b) → l.mapM g = some r
  | [], r, h, _ => h
  | a :: l, r, h, hg => by
    rw [List.mapM_cons] at h
    cases ha : f a with
    | none => simp [ha] at h
    | some b =>
      cases hr : l.mapM f with
      | none => simp [ha, hr] at h
      | some q =>
        simp [ha, hr] at h
        subst h
        rw [List.mapM_cons, hg a (by simp) b (by simp) ha, mapM_mk hr (fun a h1 b h2 h3 => hg a (by simp [h1]) b (by simp [h2]) h3)]
        rfl

theorem build {β : Type} {Q : Nat → β → Prop} : ∀ n, (∀ i, i < n → ∃ b, Q i b) → ∃ l : List β, l.length = n ∧ ∀ (i : Nat) (b : β), l[i]? = some b → Q i b
  | 0, _ => ⟨[], rfl, fun i b h => by simp at h⟩
  | n + 1, h => by
    obtain ⟨l, h1, h2⟩ := build n (fun i hi => h i (by omega))
    obtain ⟨b, hb⟩ := h n (by omega)
    refine ⟨l ++ [b], by simp [h1], fun i b' hi => ?_⟩
    by_cases hn : i < n
    · rw [List.getElem?_append_left (by omega)] at hi
      exact h2 i b' hi
    · rw [List.getElem?_append_right (by omega), h1] at hi
      have : i - n = 0 := by
        cases hk : i - n with
        | zero => rfl
        | succ k => rw [hk] at hi; simp at hi
      rw [this] at hi
      simp at hi
      subst hi
      have : i = n := by omega
      subst this
      exact hb

theorem mkV_cells {agg : Bool} {l : List Lf} (h : (agg || l.length == 1) = true) (d : Tu l) : (mkV agg l d).cells = Tu.mk l d := by
  cases agg with
  | true => rfl
  | false =>
    have : l.length = 1 := by simpa using h
    match l, this with
    | [f], _ => rw [mkV_scalar, Lf.mk_cells]; rfl

theorem cells_two {W W' : World} (hk : ∀ i, i < W.heap.size → W'.heap[i]? = W.heap[i]?) {a : Addr} {n : Nat} {cs : List Value} (h : W.cells? 0 a n = some cs) : W'.cells? 0 a n = some cs := by
  unfold World.cells? at h ⊢
  rw [if_pos (Nat.zero_le _)] at h ⊢
  refine mapM_mk h (fun i _ v _ hv => ?_)
  unfold World.cell? at hv ⊢
  cases hb : W.heap[(a.add i).block]? with
  | none => rw [hb] at hv; cases hv
  | some o =>
    rw [hk _ (Array.getElem?_eq_some_iff.1 hb).1, hb]
    rw [hb] at hv
    exact hv

theorem cells_at {W : World} {a : Addr} {n : Nat} {cs : List Value} (h : W.cells? 0 a n = some cs) : cs.length = n ∧ ∀ (i : Nat) v, cs[i]? = some v → W.cell? (a.add i) = some v := by
  unfold World.cells? at h
  rw [if_pos (Nat.zero_le _)] at h
  exact mapM_range0 h

theorem trod_bind {H : Type} {enc : TypeId × Value → H} {W W' : World} {sp : Nat → Bool} {fuel : Nat} {e : TypeId} {a : Addr} {n : Nat} {y : DataW H × List MemPlace}
    (hk : ∀ i, i < W.heap.size → W'.heap[i]? = W.heap[i]?)
    (h : ((W.cells? 0 a n).bind (DataW.trod enc P W 0 (fun _ => true) true fuel e)) = some y)
    (ih : ∀ cs, DataW.trod enc P W 0 (fun _ => true) true fuel e cs = some y → DataW.trod enc P W' 0 sp true fuel e cs = some y) :
    ((W'.cells? 0 a n).bind (DataW.trod enc P W' 0 sp true fuel e)) = some y := by
  cases hc : W.cells? 0 a n with
  | none => rw [hc] at h; cases h
  | some cs =>
    rw [hc] at h
    rw [cells_two hk hc]
    exact ih cs h

theorem flatMap_getElem? {es : List AV} {sz k : Nat} (h : ∀ e ∈ es, e.cells.length = sz) (hk : k < es.length * sz) : ∃ e, es[k / sz]? = some e ∧ (es.flatMap AV.cells)[k]? = e.cells[k % sz]? := by
  have hz : 0 < sz := by
    cases sz with
    | zero => simp at hk
    | succ n => omega
  have hi : k / sz < es.length := (Nat.div_lt_iff_lt_mul hz).2 hk
  refine ⟨es[k / sz], List.getElem?_eq_getElem hi, ?_⟩
  have := flat_get h (List.getElem?_eq_getElem hi) (Nat.mod_lt k hz)
  rw [show k / sz * sz + k % sz = k by rw [Nat.mul_comm]; exact Nat.div_add_mod k sz] at this
  exact this
end
end Go.Ab
/- What is read of a law's arguments: the theorem. -/
namespace Go.Ab
open Go

section
variable {P : Program} {H : Type} {enc : TypeId × Value → H} {W W' : World}

/-- What is read is of these kinds, and read so still. -/
def InOk (P : Program) (enc : TypeId × Value → H) (W W' : World) (fs : List Lf) (fuel : Nat) (t : TypeId) (cs : List Value) (y : DataW H × List MemPlace) : Prop :=
  (∃ as, HasL fs as ∧ AllPV W as cs) ∧ ∀ sp : Nat → Bool, (∀ p ∈ y.2, sp p.block = true) → DataW.trod enc P W' 0 sp true fuel t cs = some y

theorem slice_in (hk : ∀ i, i < W.heap.size → W'.heap[i]? = W.heap[i]?) {l : List Lf} {agg : Bool} {t e : TypeId} (ht : P.underlying t = some (.slice e)) (hl : l.length = P.cellsOf e) (hz : l.length ≠ 0) (hagg : (agg || l.length == 1) = true) {fuel : Nat}
    (ih : ∀ cs y, DataW.trod enc P W 0 (fun _ => true) true fuel e cs = some y → InOk P enc W W' l fuel e cs y) {a : Addr} {len cap : Nat} {y : DataW H × List MemPlace}
    (h : DataW.trod enc P W 0 (fun _ => true) true (fuel + 1) t [.slice (some a) len cap] = some y) : InOk P enc W W' [.fl agg l] (fuel + 1) t [.slice (some a) len cap] y := by
  have hz' : P.cellsOf e ≠ 0 := by omega
  unfold DataW.trod at h
  simp only [ht, if_true] at h
  split at h
  case isFalse => cases h
  rename_i hcond
  obtain ⟨_, hlc, hmax⟩ := hcond
  cases hel : (List.range len).mapM (fun i => (W.cells? 0 (a.add (i * P.cellsOf e)) (P.cellsOf e)).bind (DataW.trod enc P W 0 (fun _ => true) true fuel e)) with
  | none => simp [hel] at h
  | some elems =>
  cases hre : (List.range (cap - len)).mapM (fun j => (W.cells? 0 (a.add ((len + j) * P.cellsOf e)) (P.cellsOf e)).bind (DataW.trod enc P W 0 (fun _ => true) true fuel e)) with
  | none => simp [hel, hre] at h
  | some rest =>
  simp [hel, hre] at h
  obtain ⟨e1, e2⟩ := mapM_range0 hel
  obtain ⟨r1, r2⟩ := mapM_range0 hre
  have helem : ∀ i, i < len → ∃ d : Tu l, Tu.wf l d ∧ ∃ cs, W.cells? 0 (a.add (i * P.cellsOf e)) (P.cellsOf e) = some cs ∧ AllPV W (Tu.mk l d) cs := by
    intro i hi
    have := e2 i elems[i] (List.getElem?_eq_getElem (by omega))
    cases hc : W.cells? 0 (a.add (i * P.cellsOf e)) (P.cellsOf e) with
    | none => rw [hc] at this; cases this
    | some cs =>
      rw [hc] at this
      obtain ⟨⟨as, g1, g2⟩, _⟩ := ih cs _ this
      obtain ⟨d, k1, k2⟩ := hasL_tu g1
      subst k1
      exact ⟨d, k2, cs, rfl, g2⟩
  obtain ⟨ds, d1, d2⟩ := build len helem
  have hcells : ∀ v ∈ ds.map (mkV agg l), v.cells.length = P.cellsOf e := by
    intro v hv
    obtain ⟨d, _, rfl⟩ := List.mem_map.1 hv
    rw [mkV_cells hagg, Tu.mk_length, hl]
  have hk2 : ∀ k, k < len * P.cellsOf e → ∃ v, W.cell? ⟨a.block, a.off + k, none⟩ = some v ∧ ∀ c, ((ds.map (mkV agg l)).flatMap AV.cells)[k]? = some c → PV W (fun _ => False) c v := by
    intro k hkk
    obtain ⟨v, g1, g2⟩ := flatMap_getElem? hcells (k := k) (by simpa [d1] using hkk)
    rw [List.getElem?_map] at g1
    cases hd : ds[k / P.cellsOf e]? with
    | none => rw [hd] at g1; cases g1
    | some d =>
      rw [hd] at g1
      cases g1
      obtain ⟨_, cs, q1, q2⟩ := d2 _ d hd
      obtain ⟨q3, q4⟩ := cells_at q1
      have hm : k % P.cellsOf e < cs.length := by rw [q3]; exact Nat.mod_lt _ (by omega)
      have q5 := q4 _ _ (List.getElem?_eq_getElem hm)
      have hadd : (a.add (k / P.cellsOf e * P.cellsOf e)).add (k % P.cellsOf e) = ⟨a.block, a.off + k, if k = 0 then a.spot else none⟩ := by
        have hdm := Nat.div_add_mod k (P.cellsOf e)
        rw [Nat.mul_comm] at hdm
        unfold Addr.add
        by_cases h0 : k / P.cellsOf e * P.cellsOf e = 0
        · rw [if_pos h0]
          by_cases h1 : k % P.cellsOf e = 0
          · rw [if_pos h1]
            have : k = 0 := by omega
            subst this
            simp
          · rw [if_neg h1]
            have : k ≠ 0 := by intro hh; subst hh; simp at h1
            rw [if_neg this]
            congr 1
            omega
        · rw [if_neg h0]
          have : k ≠ 0 := by intro hh; subst hh; simp at h0
          by_cases h1 : k % P.cellsOf e = 0
          · rw [if_pos h1, if_neg this]
            congr 1
            omega
          · rw [if_neg h1, if_neg this]
            simp only
            congr 1
            omega
      rw [hadd] at q5
      refine ⟨cs[k % P.cellsOf e], ?_, fun c hc => ?_⟩
      · by_cases h0 : k = 0
        · subst h0
          simp only [if_true] at q5
          have : a.spot = none := by
            unfold World.cell? at q5
            split at q5
            · split at q5
              · cases q5
              · rename_i hs; simpa using hs
            · cases q5
          rw [this] at q5
          exact q5
        · rw [if_neg h0] at q5; exact q5
      · rw [g2, mkV_cells hagg] at hc
        exact q2.2 _ _ _ hc (List.getElem?_eq_getElem hm)
  obtain ⟨vals, v1, v2⟩ := build _ hk2
  constructor
  · refine ⟨[.slc (decide (cap = len)) (ds.map (mkV agg l))], ⟨⟨(decide (cap = len), ds), rfl, ?_, ?_⟩, trivial⟩, AllPV.one ?_⟩
    · have : (2 : Nat) ^ 63 - 1 = 9223372036854775807 := by decide
      simp only [maxLen] at hmax
      show ds.length ≤ _
      omega
    · intro d hd
      obtain ⟨i, hi⟩ := List.getElem?_of_mem hd
      exact (d2 i d hi).1
    · have hlen : (ds.map (mkV agg l)).length = len := by simp [d1]
      have := PV.slc (w := W) (F := fun _ => False) (decide (cap = len)) (ds.map (mkV agg l)) (some a) cap (P.cellsOf e) vals (fun hx => by rw [hlen]; simpa using hx) (by rw [hlen]; exact hlc)
        (fun v hv => ⟨hcells v hv, by
          obtain ⟨d, _, rfl⟩ := List.mem_map.1 hv
          rw [mkV_cells hagg]
          have : HasL l (Tu.mk l d) ∨ True := .inr trivial
          intro c hc
          exact mk_allC d c hc⟩)
        (fun hne => by
          have hlen0 : 0 < len * P.cellsOf e := by
            have : 0 < ds.length := by
              cases ds with
              | nil => simp at hne
              | cons => simp
            exact Nat.mul_pos (by omega) (by omega)
          have hds0 : 0 < ds.length := by
            cases ds with
            | nil => simp at hne
            | cons => simp
          obtain ⟨q1, _⟩ := v2 0 (vals[0]'(by omega)) (List.getElem?_eq_getElem (by omega))
          have hsp : a.spot = none := by
            obtain ⟨_, cs, q1, q2⟩ := d2 0 (ds[0]'hds0) (List.getElem?_eq_getElem hds0)
            obtain ⟨q3, q4⟩ := cells_at q1
            have hcs0 : 0 < cs.length := by omega
            have := q4 0 (cs[0]'hcs0) (List.getElem?_eq_getElem hcs0)
            simp [Addr.add] at this
            unfold World.cell? at this
            split at this
            · split at this
              · cases this
              · rename_i hs; simpa using hs
            · cases this
          refine ⟨a.block, a.off, ?_, ?_, fun h => h, fun k v hkv => (v2 k v hkv).1⟩
          · cases a; simp at hsp; subst hsp; rfl
          · unfold World.cell? at q1
            cases hb : W.heap[a.block]? with
            | none => rw [hb] at q1; cases q1
            | some o => exact (Array.getElem?_eq_some_iff.1 hb).1)
        (by rw [v1, flat_len hcells]; simp [d1])
        (fun k c v hc hv => (v2 k v hv).2 c hc)
      rw [hlen] at this
      exact this
  · intro sp hsp
    have hg : ∀ (y' : DataW H × List MemPlace), (∀ p ∈ y'.2, sp p.block = true) → ∀ cs, DataW.trod enc P W 0 (fun _ => true) true fuel e cs = some y' → DataW.trod enc P W' 0 sp true fuel e cs = some y' :=
      fun y' hy' cs hcs => (ih cs y' hcs).2 sp hy'
    subst h
    simp only [List.mem_append, List.mem_flatMap] at hsp
    have he' : (List.range len).mapM (fun i => (W'.cells? 0 (a.add (i * P.cellsOf e)) (P.cellsOf e)).bind (DataW.trod enc P W' 0 sp true fuel e)) = some elems :=
      mapM_mk hel fun i _ b hb hh => trod_bind hk hh (hg b fun p hp => hsp p (.inr (.inl ⟨b, hb, hp⟩)))
    have hr' : (List.range (cap - len)).mapM (fun j => (W'.cells? 0 (a.add ((len + j) * P.cellsOf e)) (P.cellsOf e)).bind (DataW.trod enc P W' 0 sp true fuel e)) = some rest :=
      mapM_mk hre fun i _ b hb hh => trod_bind hk hh (hg b fun p hp => hsp p (.inr (.inr ⟨b, hb, hp⟩)))
    unfold DataW.trod
    simp only [ht]
    rw [if_pos ⟨Nat.zero_le _, hlc, hmax⟩, he']
    by_cases hcap : cap - len = 0
    · rw [hcap] at hr' hre
      simp at hre
      subst hre
      simp [hcap]
    · have hs : sp a.block = true := by
        refine hsp (.cell a.block a.off) (.inl ?_)
        unfold MemPlace.row
        rw [List.mem_map]
        refine ⟨0, List.mem_range.2 (Nat.mul_pos (by omega) (by omega)), by simp⟩
      simp [hs, hr']

theorem AllPV.split {cs : List Value} {n : Nat} {as bs : List AV} (h : AllPV W as (cs.take n)) (h' : AllPV W bs (cs.drop n)) : AllPV W (as ++ bs) cs := by
  have := h.append h'
  rwa [List.take_append_drop] at this

theorem fields_in {rc : TypeId → Option (List Lf)} {fuel : Nat} (ih : ∀ t l, rc t = some l → ∀ cs y, DataW.trod enc P W 0 (fun _ => true) true fuel t cs = some y → InOk P enc W W' l fuel t cs y) {sz : Nat} {cs : List Value} (hcs : cs.length = sz) :
    ∀ {fs : List Field} {off : Nat} {l : List Lf}, fieldsC P rc sz fs off = some l → off ≤ sz → ∀ {xs : List (DataW H × List MemPlace)},
      (fs.mapM fun f => DataW.trod enc P W 0 (fun _ => true) true fuel f.type ((cs.drop f.offset).take (P.cellsOf f.type))) = some xs →
      (∃ as, HasL l as ∧ AllPV W as (cs.drop off)) ∧ ∀ sp : Nat → Bool, (∀ x ∈ xs, ∀ p ∈ x.2, sp p.block = true) →
        (fs.mapM fun f => DataW.trod enc P W' 0 sp true fuel f.type ((cs.drop f.offset).take (P.cellsOf f.type))) = some xs
  | [], off, l, hf, hoff, xs, hx => by
    unfold fieldsC at hf
    split at hf
    · rename_i ho
      cases hf
      refine ⟨⟨[], trivial, ?_⟩, fun sp _ => by simpa using hx⟩
      rw [List.drop_of_length_le (by omega)]
      exact AllPV.nil
    · cases hf
  | f :: r, off, l, hf, hoff, xs, hx => by
    unfold fieldsC at hf
    split at hf
    case isFalse => cases hf
    rename_i ho
    split at hf
    case h_2 => cases hf
    rename_i l1 hl1
    split at hf
    case isFalse => cases hf
    rename_i hlen
    split at hf
    case h_2 => cases hf
    rename_i m hm
    cases hf
    rw [List.mapM_cons] at hx
    cases h1 : DataW.trod enc P W 0 (fun _ => true) true fuel f.type ((cs.drop f.offset).take (P.cellsOf f.type)) with
    | none => simp [h1] at hx
    | some x =>
    cases h2 : (r.mapM fun f => DataW.trod enc P W 0 (fun _ => true) true fuel f.type ((cs.drop f.offset).take (P.cellsOf f.type))) with
    | none => simp [h1, h2] at hx
    | some q =>
    simp [h1, h2] at hx
    subst hx
    obtain ⟨⟨as, g1, g2⟩, g3⟩ := ih _ _ hl1 _ _ h1
    have hle : off + l1.length ≤ sz := by
      have e1 := g2.1
      rw [hasL_length g1, List.length_take, List.length_drop] at e1
      rw [ho] at e1
      by_cases h0 : l1.length = 0
      · omega
      · omega
    obtain ⟨⟨bs, g4, g5⟩, g6⟩ := fields_in ih hcs hm hle h2
    constructor
    · refine ⟨as ++ bs, hasL_append g1 g4, ?_⟩
      rw [ho, ← hlen] at g2
      refine AllPV.split (n := l1.length) g2 ?_
      rw [List.drop_drop]
      exact g5
    · intro sp hsp
      rw [List.mapM_cons, g3 sp (fun p hp => hsp x (by simp) p hp), g6 sp (fun y hy p hp => hsp y (by simp [hy]) p hp)]
      rfl

theorem array_in {l : List Lf} {e : TypeId} {fuel : Nat} (ih : ∀ cs y, DataW.trod enc P W 0 (fun _ => true) true fuel e cs = some y → InOk P enc W W' l fuel e cs y) (hl : l.length = P.cellsOf e) {cs : List Value} :
    ∀ {n k : Nat}, cs.length = (k + n) * P.cellsOf e → ∀ {xs : List (DataW H × List MemPlace)},
      ((List.range' k n).mapM fun i => DataW.trod enc P W 0 (fun _ => true) true fuel e ((cs.drop (i * P.cellsOf e)).take (P.cellsOf e))) = some xs →
      (∃ as, HasL (List.replicate n l).flatten as ∧ AllPV W as (cs.drop (k * P.cellsOf e))) ∧ ∀ sp : Nat → Bool, (∀ x ∈ xs, ∀ p ∈ x.2, sp p.block = true) →
        ((List.range' k n).mapM fun i => DataW.trod enc P W' 0 sp true fuel e ((cs.drop (i * P.cellsOf e)).take (P.cellsOf e))) = some xs
  | 0, k, hcs, xs, hx => by
    refine ⟨⟨[], trivial, ?_⟩, fun sp _ => by simpa using hx⟩
    rw [List.drop_of_length_le (by rw [hcs]; simp)]
    exact AllPV.nil
  | n + 1, k, hcs, xs, hx => by
    rw [List.range'_succ, List.mapM_cons] at hx
    cases h1 : DataW.trod enc P W 0 (fun _ => true) true fuel e ((cs.drop (k * P.cellsOf e)).take (P.cellsOf e)) with
    | none => simp [h1] at hx
    | some x =>
    cases h2 : ((List.range' (k + 1) n).mapM fun i => DataW.trod enc P W 0 (fun _ => true) true fuel e ((cs.drop (i * P.cellsOf e)).take (P.cellsOf e))) with
    | none => simp [h1, h2] at hx
    | some q =>
    simp [h1, h2] at hx
    subst hx
    obtain ⟨⟨as, g1, g2⟩, g3⟩ := ih _ _ h1
    obtain ⟨⟨bs, g4, g5⟩, g6⟩ := array_in ih hl (n := n) (k := k + 1) (by rw [hcs]; congr 1; omega) h2
    constructor
    · refine ⟨as ++ bs, ?_, ?_⟩
      · rw [List.replicate_succ, List.flatten_cons]
        exact hasL_append g1 g4
      · refine AllPV.split (n := P.cellsOf e) g2 ?_
        rw [List.drop_drop, ← Nat.succ_mul]
        exact g5
    · intro sp hsp
      rw [List.range'_succ, List.mapM_cons, g3 sp (fun p hp => hsp x (by simp) p hp), g6 sp (fun y hy p hp => hsp y (by simp [hy]) p hp)]
      rfl

theorem trod_in (hk : ∀ i, i < W.heap.size → W'.heap[i]? = W.heap[i]?) : ∀ (d : Nat) (t : TypeId) (l : List Lf), leafsC P d t = some l → ∀ (fuel : Nat) (cs : List Value) (y : DataW H × List MemPlace),
    DataW.trod enc P W 0 (fun _ => true) true fuel t cs = some y → InOk P enc W W' l fuel t cs y
  | 0, t, l, h, _, _, _, _ => by cases h
  | d + 1, t, l, h, 0, cs, y, hy => by cases hy
  | d + 1, t, l, h, fuel + 1, cs, y, hy => by
    unfold leafsC at h
    split at h
    · rename_i ht
      cases h
      have hy0 := hy
      unfold DataW.trod at hy
      rw [ht] at hy
      rcases cs with _ | ⟨v, _ | ⟨w, r⟩⟩
      · simp at hy
      · cases v <;> simp at hy
        rename_i b
        subst hy
        refine ⟨⟨[.bool b], ⟨⟨b, rfl, trivial⟩, trivial⟩, AllPV.one (.bool b)⟩, fun sp _ => ?_⟩
        unfold DataW.trod
        rw [ht]
      · simp at hy
    · rename_i k ht
      cases h
      unfold DataW.trod at hy
      rw [ht] at hy
      rcases cs with _ | ⟨v, _ | ⟨w, r⟩⟩
      · simp at hy
      · cases v <;> simp at hy
        rename_i k' n
        obtain ⟨⟨rfl, hwf⟩, rfl⟩ := hy
        refine ⟨⟨[.int k' n], ⟨⟨n, rfl, ?_⟩, trivial⟩, AllPV.one (.int k' n)⟩, fun sp _ => ?_⟩
        · have h5 : k'.min ≤ n ∧ n ≤ k'.max := by simpa [Lit.wf] using hwf
          exact h5
        · unfold DataW.trod
          rw [ht]
          simp [hwf]
      · simp at hy
    · rename_i ht
      cases h
      unfold DataW.trod at hy
      rw [ht] at hy
      rcases cs with _ | ⟨v, _ | ⟨w, r⟩⟩
      · simp at hy
      · cases v <;> simp at hy
        rename_i b
        obtain ⟨hsz, rfl⟩ := hy
        refine ⟨⟨[.str b.data.toList], ⟨⟨b.data.toList, rfl, ?_⟩, trivial⟩, AllPV.one ?_⟩, fun sp _ => ?_⟩
        · have : (2 : Nat) ^ 63 - 1 = 9223372036854775807 := by decide
          simp only [maxLen] at hsz
          show b.data.toList.length ≤ _
          have : b.data.toList.length = b.size := by rw [Array.length_toList]; rfl
          omega
        · have := PV.str (w := W) (F := fun _ => False) b.data.toList
          simpa using this
        · unfold DataW.trod
          rw [ht]
          simp [hsz]
      · simp at hy
    · rename_i e ht
      split at h
      · rename_i l' agg hl' hagg
        split at h
        · rename_i hc
          cases h
          rcases cs with _ | ⟨v, _ | ⟨w, r⟩⟩
          · unfold DataW.trod at hy
            rw [ht] at hy
            simp at hy
          · cases v <;> first | (unfold DataW.trod at hy; rw [ht] at hy; simp at hy; done) | skip
            rename_i a len cap
            cases a with
            | none =>
              unfold DataW.trod at hy
              rw [ht] at hy
              cases len with
              | zero => cases cap with
                | zero =>
                  simp at hy
                  subst hy
                  refine ⟨⟨[.slc true []], ⟨⟨(true, []), rfl, by simp [Lf.wf]⟩, trivial⟩, AllPV.one ?_⟩, fun sp _ => ?_⟩
                  · exact .slc true [] none 0 0 [] (fun _ => rfl) (Nat.le_refl _) (fun e he => by simp at he) (fun h => absurd rfl h) rfl (fun k c v h => by simp at h)
                  · unfold DataW.trod
                    rw [ht]
                    rfl
                | succ n => simp at hy
              | succ n => simp at hy
            | some a => exact slice_in hk ht hc.1 hc.2.1 hc.2.2 (fun cs y h => trod_in hk d e l' hl' fuel cs y h) hy
          · unfold DataW.trod at hy
            rw [ht] at hy
            simp at hy
        · cases h
      · cases h
    · rename_i fs ht
      unfold DataW.trod at hy
      simp only [ht] at hy
      split at hy
      · rename_i hlen
        cases hx : (fs.toList.mapM fun f => DataW.trod enc P W 0 (fun _ => true) true fuel f.type ((cs.drop f.offset).take (P.cellsOf f.type))) with
        | none => simp [hx] at hy
        | some xs =>
          simp [hx] at hy
          subst hy
          obtain ⟨⟨as, g1, g2⟩, g3⟩ := fields_in (fun t l hl cs y h => trod_in hk d t l hl fuel cs y h) hlen h (Nat.zero_le _) hx
          refine ⟨⟨as, g1, by simpa using g2⟩, fun sp hsp => ?_⟩
          unfold DataW.trod
          simp only [ht, hlen, if_true]
          rw [g3 sp (fun x hx p hp => hsp p (List.mem_flatMap.2 ⟨x, hx, hp⟩))]
          rfl
      · cases hy
    · rename_i n e ht
      split at h
      · rename_i l' hl'
        split at h
        · rename_i hc
          cases h
          unfold DataW.trod at hy
          simp only [ht] at hy
          split at hy
          · rename_i hlen
            rw [List.range_eq_range'] at hy
            cases hx : ((List.range' 0 n).mapM fun i => DataW.trod enc P W 0 (fun _ => true) true fuel e ((cs.drop (i * P.cellsOf e)).take (P.cellsOf e))) with
            | none => simp [hx] at hy
            | some xs =>
              simp [hx] at hy
              subst hy
              obtain ⟨⟨as, g1, g2⟩, g3⟩ := array_in (fun cs y h => trod_in hk d e l' hl' fuel cs y h) hc.1 (n := n) (k := 0) (by rw [hlen, ← hc.2]; simp) hx
              refine ⟨⟨as, g1, by simpa using g2⟩, fun sp hsp => ?_⟩
              unfold DataW.trod
              simp only [ht, hlen, if_true]
              rw [List.range_eq_range', g3 sp (fun x hx p hp => hsp p (List.mem_flatMap.2 ⟨x, hx, hp⟩))]
              rfl
          · cases hy
        · cases h
      · cases h
    · cases h
end
end Go.Ab
/- A law of arguments in kinds: its call. -/
namespace Go.Ab
open Go

section
variable {P : Program} {H : Type} {enc : TypeId × Value → H}

/-- Parameters' kinds. -/
def sigF (P : Program) : List TypeId → Option (Shp × List Lf)
  | [] => some ([], [])
  | t :: ts => match leafsC P 10 t, isAggT P t, sigF P ts with
    | some l, some true, some (sh, ls) => some (some l.length :: sh, l ++ ls)
    | some [f], some false, some (sh, ls) => some (none :: sh, f :: ls)
    | _, _, _ => none

theorem isAgg_inv {t : TypeId} {b : Bool} (h : isAggT P t = some b) : (b = true → ∃ u, P.underlying t = some u ∧ ((∃ fs, u = .struct fs) ∨ ∃ n e, u = .array n e)) ∧
    (b = false → ∀ fs, P.underlying t ≠ some (.struct fs)) ∧ (b = false → ∀ n e, P.underlying t ≠ some (.array n e)) := by
  unfold isAggT at h
  split at h
  · rename_i fs hu
    cases h
    exact ⟨fun _ => ⟨_, hu, .inl ⟨fs, rfl⟩⟩, fun h => by (cases h), fun h => by (cases h)⟩
  · rename_i n e hu
    cases h
    exact ⟨fun _ => ⟨_, hu, .inr ⟨n, e, rfl⟩⟩, fun h => by (cases h), fun h => by (cases h)⟩
  · rename_i u h1 h2 hu
    cases h
    refine ⟨fun h => by (cases h), fun _ fs hh => ?_, fun _ n e hh => ?_⟩
    · rw [hu] at hh; cases hh; exact h1 _ rfl
    · rw [hu] at hh; cases hh; exact h2 _ _ rfl
  · cases h

theorem groupA_some (n : Nat) (r : Shp) (cs : List AV) : groupA (some n :: r) cs = .agg (cs.take n) :: groupA r (cs.drop n) := by
  cases cs <;> rfl

theorem args_in {W W' : World} {base : Nat} (hk : ∀ i, i < W.heap.size → W'.heap[i]? = W.heap[i]?) : ∀ {ts : List TypeId} {sh : Shp} {fs : List Lf}, sigF P ts = some (sh, fs) → ∀ {vs : List Value} {ds : List (DataW H)} {ps : List MemPlace},
    (∀ (j : Nat) t v, ts[j]? = some t → vs[j]? = some v → Value.okWide P W .any base t v) → DataW.TrodAll enc P W 0 (fun _ => true) true ts vs ds ps →
    (∃ as, HasL fs as ∧ (groupA sh as).length = vs.length ∧ ∀ (i : Nat) a v, (groupA sh as)[i]? = some a → vs[i]? = some v → PV W (fun _ => False) a v) ∧
      ∀ sp : Nat → Bool, (∀ p ∈ ps, sp p.block = true) → DataW.TrodAll enc P W' 0 sp true ts vs ds ps
  | [], sh, fs, hs, vs, ds, ps, hv, hA => by
    cases hs
    cases vs with
    | cons => exact hA.elim
    | nil => cases ds with
      | cons => exact hA.elim
      | nil =>
        have : ps = [] := hA
        subst this
        exact ⟨⟨[], trivial, rfl, fun i a v h => by simp [groupA] at h⟩, fun sp _ => rfl⟩
  | t :: ts, sh, fs, hs, [], ds, ps, hv, hA => by cases ds <;> exact hA.elim
  | t :: ts, sh, fs, hs, v :: vs, [], ps, hv, hA => hA.elim
  | t :: ts, sh, fs, hs, v :: vs, d :: ds, ps, hv, hA => by
    obtain ⟨p, q, ⟨fuel, hd⟩, hr, rfl⟩ := hA
    unfold sigF at hs
    have hv0 := hv 0 t v rfl rfl
    split at hs
    · rename_i l sh' ls hl ha hs'
      cases hs
      obtain ⟨⟨as, g1, g2, g3⟩, g4⟩ := args_in hk hs' (fun j t v h1 h2 => hv (j + 1) t v h1 h2) hr
      obtain ⟨⟨bs, k1, k2⟩, k3⟩ := trod_in (enc := enc) hk 10 t l hl fuel _ _ hd
      constructor
      · refine ⟨bs ++ as, hasL_append k1 g1, ?_, ?_⟩
        · rw [groupA_some, List.drop_left' (hasL_length k1)]
          simp [g2]
        · rw [groupA_some, List.drop_left' (hasL_length k1), List.take_left' (hasL_length k1)]
          intro i a u h1 h2
          cases i with
          | zero =>
            simp at h1 h2
            subst h1; subst h2
            obtain ⟨u, hu, hu'⟩ := (isAgg_inv ha).1 rfl
            have : ∃ cs, v = .agg cs := by
              unfold Value.okWide at hv0
              rw [hu] at hv0
              rcases hu' with ⟨fs, rfl⟩ | ⟨n, e, rfl⟩
              · obtain ⟨cs, h, _⟩ := hv0; exact ⟨cs, h⟩
              · obtain ⟨cs, h, _⟩ := hv0; exact ⟨cs, h⟩
            obtain ⟨cs, rfl⟩ := this
            have := PV.agg bs cs.toList k2.1 (hasL_okC k1) k2.2
            simpa using this
          | succ i => simp at h1 h2; exact g3 i a u h1 h2
      · intro sp hsp
        exact ⟨p, q, ⟨fuel, k3 sp fun x hx => hsp x (by simp at hx ⊢; exact .inl hx)⟩, g4 sp fun x hx => hsp x (by simp; exact .inr hx), rfl⟩
    · rename_i f sh' ls hl ha hs'
      cases hs
      obtain ⟨⟨as, g1, g2, g3⟩, g4⟩ := args_in hk hs' (fun j t v h1 h2 => hv (j + 1) t v h1 h2) hr
      obtain ⟨⟨bs, k1, k2⟩, k3⟩ := trod_in (enc := enc) hk 10 t [f] hl fuel _ _ hd
      have hb : ∃ b, bs = [b] := by
        have := hasL_length k1
        match bs, this with
        | [b], _ => exact ⟨b, rfl⟩
      obtain ⟨b, rfl⟩ := hb
      constructor
      · refine ⟨b :: as, ⟨k1.1, g1⟩, by simp [groupA, g2], ?_⟩
        intro i a u h1 h2
        cases i with
        | zero =>
          simp [groupA] at h1 h2
          subst h1; subst h2
          have hna : v.cells = #[v] := by
            obtain ⟨_, i1, i2⟩ := isAgg_inv ha
            unfold Value.okWide at hv0
            split at hv0
            · rename_i fs hu; exact absurd hu (i1 rfl fs)
            · rename_i n e hu; exact absurd hu (i2 rfl n e)
            · cases v <;> first | rfl | skip
              unfold Cell.okWide at hv0
              split at hv0 <;> rename_i hh <;> first | (cases hh; done) | skip
              unfold Cell.ok at hv0
              split at hv0 <;> rename_i hh <;> first | (cases hh; done) | exact hv0.elim
          have hc := k2
          rw [hna] at hc
          exact hc.2 0 _ _ rfl rfl
        | succ i => simp [groupA] at h1 h2; exact g3 i a u h1 h2
      · intro sp hsp
        exact ⟨p, q, ⟨fuel, k3 sp fun x hx => hsp x (by simp at hx ⊢; exact .inl hx)⟩, g4 sp fun x hx => hsp x (by simp; exact .inr hx), rfl⟩
    · cases hs

theorem trod_len {W : World} {base : Nat} {sp : Nat → Bool} {hd : Bool} : ∀ {ts : List TypeId} {vs : List Value} {ds : List (DataW H)} {ps : List MemPlace}, DataW.TrodAll enc P W base sp hd ts vs ds ps → ds.length = ts.length
  | [], [], [], _, _ => rfl
  | [], [], _ :: _, _, h => h.elim
  | [], _ :: _, ds, _, h => by cases ds <;> exact h.elim
  | _ :: _, [], ds, _, h => by cases ds <;> exact h.elim
  | _ :: _, _ :: _, [], _, h => h.elim
  | t :: ts, v :: vs, d :: ds, _, h => by
    obtain ⟨p, q, _, h2, _⟩ := h
    simp [trod_len h2]

/-- A law's call. -/
theorem law_calls {callF : CallF} (hF : FnOk P callF) {f : FuncId} {ts : List TypeId} {sh : Shp} {fs : List Lf} (hsig : sigF P ts = some (sh, fs))
    (hu : ∀ d : Tu fs, Tu.wf fs d → ∃ r, callF f (groupA sh (Tu.mk fs d)) [] = some r ∧ r.pan = false ∧ r.res = .bool true)
    {W : World} {base : Nat} {args : Array Value} {ds : List (DataW H)} {ps : List MemPlace} (hval : ∀ (j : Nat) t v, ts[j]? = some t → args.toList[j]? = some v → Value.okWide P W .any base t v)
    (hA : DataW.TrodAll enc P W 0 (fun _ => true) true ts args.toList ds ps) :
    Calls P f args W fun e W' => e = .returned (.bool true) ∧ W'.os = W.os ∧ W'.output = W.output ∧ (∀ i, i < W.heap.size → W'.heap[i]? = W.heap[i]?) ∧
      ∀ sp : Nat → Bool, (∀ q ∈ ps, sp q.block = true) → DataW.TrodAll enc P W' 0 sp true ts args.toList ds ps := by
  obtain ⟨⟨as, h1, h2, h3⟩, _⟩ := args_in (enc := enc) (W := W) (W' := W) (fun i hi => rfl) hsig hval hA
  obtain ⟨d, rfl, hwf⟩ := hasL_tu h1
  obtain ⟨r, hr, hpan, hres⟩ := hu d hwf
  let c : Cx := { w := W, F := fOf (fun _ => False) (fun _ => 0) [], R := fun _ => 0, S := [] }
  have hcF : c.F = fun _ => False := by
    funext i
    refine propext ⟨?_, fun h => h.elim⟩
    rintro (h | ⟨b, x, h, _⟩)
    · exact h
    · cases h
  have hW : WR W (fun _ => False) (fun _ => False) (fun _ => False) c :=
    ⟨Nat.le_refl _, fun _ _ _ => rfl, rfl, rfl, fun _ h => h.elim, fun b x h => by simp [c, look] at h, fun b x h => by simp [c, look] at h, fun b b' x x' h => by simp [c, look] at h, fun b x h => by simp [c, look] at h, fun _ => Iff.rfl⟩
  have hVL : VL c (groupA sh (Tu.mk fs d)) args.toList := ⟨h2, fun i a v g1 g2 => .pure (by rw [hcF]; exact h3 i a v g1 g2)⟩
  have := hF.ok hr (c := c) (w0 := W) rfl (fun x hx => by simp at hx) hW hVL
  rw [Array.toArray_toList] at this
  refine this.mono ?_
  rintro e W' ⟨c', v, rfl, _, k3, _, k5, k6⟩
  rw [hres] at k5
  have hv := k5.bool_inv
  rw [hpan] at k6
  subst hv
  have hkeep : ∀ i, i < W.heap.size → c'.w.heap[i]? = W.heap[i]? := fun i hi => k3.kept i hi (fun h => h)
  exact ⟨by simpa using k6, k3.os, k3.out, hkeep, (args_in (enc := enc) hkeep hsig hval hA).2⟩
end
end Go.Ab
/- What is told of methods on a struct. -/
namespace Go.Ab
open Go

def boxB (cs : List AV) : Blk := { v := 0, k := .box, fz := false, sz := 0, es := cs }

/-- A function of a struct that it turns, and of values. -/
structure MS where
  bs : List Lf
  sh : Shp
  fs : List Lf
  rsh : Shp
  rfs : List Lf
  pre : Tu bs → Tu fs → Prop
  F : Tu bs → Tu fs → Tu bs × Tu rfs
  own : Option (Nat × Nat) := none

def MS.args (p : MS) (d : Tu p.fs) : List AV := .ptr outBase 0 0 0 :: groupA p.sh (Tu.mk p.fs d)
def MS.out0 (p : MS) (b : Tu p.bs) : List Blk := [boxB (Tu.mk p.bs b)]
def MS.out (p : MS) (y : Tu p.bs × Tu p.rfs) : Ret := { pan := false, res := resA p.rsh (Tu.mk p.rfs y.2), out := [boxB (Tu.mk p.bs y.1)], new := [] }
def MS.alts (p : MS) (b : Tu p.bs) (d : Tu p.fs) : Alt Ret := ownAlt p.own p.rsh (Tu.mk p.rfs (p.F b d).2) [boxB (Tu.mk p.bs (p.F b d).1)]
def MS.ret (p : MS) (b : Tu p.bs) (d : Tu p.fs) : Ret := (p.alts b d).val

def isBox (x : Blk) : Bool := match x.k with
  | .box => decide (x.v = 0) && !x.fz && decide (x.sz = 0)
  | _ => false

open Classical in
noncomputable def MS.dec (p : MS) (args : List AV) (out : List Blk) : Option (Tu p.bs × Tu p.fs) :=
  match out with
  | [x] => if isBox x = true ∧ x.es.length = p.bs.length then match Tu.dec p.bs x.es with
      | some b => match args with
        | .ptr q v i off :: r => if q = outBase ∧ v = 0 ∧ i = 0 ∧ off = 0 then match flatA p.sh r with
            | some cs => if cs.length = p.fs.length then match Tu.dec p.fs cs with
                | some d => if p.pre b d then some (b, d) else none
                | none => none
              else none
            | none => none
          else none
        | _ => none
      | none => none
    else none
  | _ => none

noncomputable def MS.pk (p : MS) : PK := { D := Tu p.bs × Tu p.fs, dec := p.dec, out := fun d => p.alts d.1 d.2 }

theorem MS.dec_ok {p : MS} {args : List AV} {out : List Blk} {d : Tu p.bs × Tu p.fs} (h : p.dec args out = some d) : out = p.out0 d.1 ∧ args = p.args d.2 ∧ p.pre d.1 d.2 := by
  unfold MS.dec at h
  split at h
  case h_2 => cases h
  rename_i x
  split at h
  case isFalse => cases h
  rename_i hx
  split at h
  case h_2 => cases h
  rename_i b hb
  split at h
  case h_2 => cases h
  rename_i q v i off r
  split at h
  case isFalse => cases h
  rename_i hq
  obtain ⟨rfl, rfl, rfl, rfl⟩ := hq
  split at h
  case h_2 => cases h
  rename_i cs hcs
  split at h
  case isFalse => cases h
  rename_i hl
  split at h
  case h_2 => cases h
  rename_i d' hd
  split at h
  case isFalse => cases h
  rename_i hp
  cases h
  refine ⟨?_, ?_, hp⟩
  · obtain ⟨h1, _⟩ := Tu.dec_mk hb
    rw [← hx.2, List.take_length] at h1
    have hbox := hx.1
    obtain ⟨xv, xk, xfz, xsz, xes⟩ := x
    unfold isBox at hbox
    cases xk <;> simp at hbox
    obtain ⟨⟨rfl, rfl⟩, rfl⟩ := hbox
    simp only [MS.out0, boxB, ← h1]
  · obtain ⟨h1, _⟩ := Tu.dec_mk hd
    rw [← hl, List.take_length] at h1
    simp only [MS.args, flatA_group hcs, h1]

theorem MS.dec_of (p : MS) (hok : shOk p.sh p.fs = true) (hb : Tu.ok p.bs = true) (b : Tu p.bs) (d : Tu p.fs) (h : p.pre b d) : p.dec (p.args d) (p.out0 b) = some (b, d) := by
  unfold shOk at hok
  simp only [Bool.and_eq_true, decide_eq_true_eq] at hok
  have h1 := Tu.dec_of hok.2 d []
  have h2 := Tu.dec_of hb b []
  rw [List.append_nil] at h1 h2
  unfold MS.dec MS.args MS.out0 boxB
  simp only [isBox, Tu.mk_length, h2]
  simp only [flatA_of (Tu.mk_length _ _) hok.1 (mk_notAgg d), Tu.mk_length, h1, if_pos h]
  simp

theorem oK_ms {R : Type} (p : MS) (b : Tu p.bs) (d : Tu p.fs) (h : p.pre b d) {k : Tu p.bs × Tu p.fs → Option R} {z : Option R} (hz : k (b, d) = z) (hok : shOk p.sh p.fs = true := by decide) (hb : Tu.ok p.bs = true := by decide) :
    oK (p.pk.dec (p.args d) (p.out0 b)) k = z := by
  show oK (p.dec (p.args d) (p.out0 b)) k = z
  rw [MS.dec_of p hok hb b d h, oK_some]
  exact hz

theorem oK_msq {R : Type} (p : MS) (b : Tu p.bs) (d : Tu p.fs) (h : p.pre b d) {k : Tu p.bs × Tu p.fs → Option R} {Q : Option R → Prop} (hz : Q (k (b, d))) (hok : shOk p.sh p.fs = true := by decide) (hb : Tu.ok p.bs = true := by decide) :
    Q (oK (p.dec (p.args d) (p.out0 b)) k) := by
  rw [MS.dec_of p hok hb b d h, oK_some]
  exact hz

section
variable {P : Program}
theorem PKsOk.ms {cfg : Cfg} {pk : PKs} (h : PKsOk P pk) (hF : FnOk P (evF P (cfg.with pk) 21)) (f : FuncId) (hf : pk f = Option.none) (lp : LPs) (hl : FLoopsOk P (cfg.with pk) (evF P (cfg.with pk) 20) lp f) (p : MS)
    (hu : ∀ b d, p.pre b d → unitQ P cfg pk lp p.own.isSome f (p.args d) (p.out0 b) = some (p.ret b d)) : PKsOk P (pk.add f p.pk) :=
  h.addW hF fun args out d hd => by
    obtain ⟨rfl, rfl, hp⟩ := MS.dec_ok hd
    obtain ⟨q, h1, h2⟩ := unitQ_ok hf hl (hu d.1 d.2 hp)
    exact ⟨by simp [MS.out0], q, h1, h2⟩
end
end Go.Ab
/- slices.Clone of what is empty: it is nil or not, and so is what comes back. -/
namespace Go.Ab
open Go

def ge (d : Option Tmp) (op : Op) (x : TypeId × String × Array Edge) : Oper := { dst := d, op := op, type := x.1, pos := x.2.1, after := x.2.2, guard := none }

def cloneCode (t t4 : TypeId) (i0 i1 i2 i3 : Nat) (a b c d e f g h : TypeId × String × Array Edge) : Code :=
  .seq (.region i0 #[ge (some 2) (.assign (.const (.slice none 0 0))) a] false)
    (.seq (.seq (.region i1 #[ge (some 3) (.move (.tmp 0)) b, ge (some 4) (.binOp .eql t (.tmp 3) (.const (.slice none 0 0)) t4) c] false)
        (.cond (.tmp 4) (.seq (.region i2 #[ge (some 2) (.assign (.const (.slice none 0 0))) d] false) .ret) .skip))
      (.seq (.region i3 #[ge (some 5) (.buildSlice t 0 #[]) e, ge (some 6) (.move (.tmp 0)) f, ge (some 7) (.call { callee := .builtin .append, args := #[.tmp 5, .tmp 6], argTypes := #[t, t] }) g, ge (some 2) (.assign (.tmp 7)) h] false) .ret))

section
variable {P : Program} {w0 : World} {G X Lo : Nat → Prop} {c : Cx}

/-- A block that nobody knows. -/
theorem WR.pushU (h : WR w0 G X Lo c) (o : Obj) : WR w0 G X Lo { c with w := { c.w with heap := c.w.heap.push o } } ∧ Le c { c with w := { c.w with heap := c.w.heap.push o } } := by
  have hold : ∀ i, i < c.w.heap.size → (c.w.heap.push o)[i]? = c.w.heap[i]? := fun i hi => by rw [Array.getElem?_push_lt hi, Array.getElem?_eq_getElem hi]
  have L : Le c { c with w := { c.w with heap := c.w.heap.push o } } := by
    refine ⟨by show _ ≤ (c.w.heap.push o).size; rw [Array.size_push]; omega, fun _ _ hf => hf, fun i hi _ => hold i hi, fun b x hx => ⟨x, hx, Nat.le_refl _, fun _ hd => ⟨rfl, rfl, rfl, fun _ => rfl, id, fun cells t fr hc => ⟨cells, t, fr, ?_, rfl⟩⟩⟩⟩
    show (c.w.heap.push o)[c.R b]? = _
    rw [hold _ (Array.getElem?_eq_some_iff.1 hc).1]; exact hc
  refine ⟨⟨Nat.le_trans h.size L.size, fun i hi hg => ?_, h.os, h.out, h.xs, h.own, h.low, h.inj, fun b x hx hd => ?_, h.hF⟩, L⟩
  · show (c.w.heap.push o)[i]? = _
    rw [hold i (Nat.lt_of_lt_of_le hi h.size)]; exact h.kept i hi hg
  · obtain ⟨cells, t, lo, hi, g1, g2, g3, g4⟩ := (h.blk b x hx hd).here
    refine ⟨cells, t, lo, hi, ?_, g2, fun k => (g3 k).mono L, fun k => ⟨(g4 k).1, (g4 k).2.mono L⟩⟩
    show (c.w.heap.push o)[c.R b]? = _
    rw [hold _ (Array.getElem?_eq_some_iff.1 g1).1]; exact g1

def primEmpty (args : List AV) (out : List Blk) : Option Ret :=
  match args with
  | [.slc _ []] => if (out.all fun x => decide (x.v = 0)) = true then some { pan := false, res := .slc true [], out := out, new := [] } else none
  | _ => none

theorem empty_V {x : Bool} {v : Value} (h : V c (.slc x []) v) : ∃ a cap, v = .slice a 0 cap := by
  have := h.slc_inv
  cases this
  exact ⟨_, _, rfl⟩

theorem V_empty (a : Option Addr) : V c (.slc true []) (.slice a 0 0) :=
  .pure (.slc true [] a 0 0 [] (fun _ => rfl) (Nat.le_refl _) (fun e he => by simp at he) (fun h => absurd rfl h) rfl (fun k c v h => by simp at h))

theorem run_equalIn_slc (w : World) (d : Nat) {t e : TypeId} {a : Option Addr} {n cap : Nat} (hu : P.underlying t = some (.slice e)) :
    (Op.equalIn (d + 1) t (.slice a n cap) (.slice none 0 0)).run P w = .ok a.isNone w := by
  cases a <;> simp [Op.equalIn, run_underlying hu]

theorem put_size (A : Act) (d : Option Tmp) (v : Value) : (A.put d v).tmps.size = A.tmps.size := by
  cases d <;> simp [Act.put]

theorem put_same (A : Act) {d : Nat} (v : Value) (h : d < A.tmps.size) : (A.put (some d) v).eval (.tmp d) = v := by
  simp [Act.put, Act.eval, Array.getD, h]

theorem put_ne (A : Act) {d k : Nat} (v : Value) (h : d ≠ k) : (A.put (some d) v).eval (.tmp k) = A.eval (.tmp k) := by
  simp only [Act.put, Act.eval, Array.getD_eq_getD_getElem?, Array.getElem?_setIfInBounds]
  rw [if_neg h]

theorem wp_step {ops : Array Oper} {Q : Exit → Act → World → Prop} {i : Nat} {rest : List Nat} {A : Act} {w w' : World} {o : Oper} {u : Value} {d : Nat} (h1 : ops[i]? = some o) (h2 : o.guard = none) (hd : o.dst = some d) (hs : d < A.tmps.size)
    (h3 : (execOp A.eval o).run P w = .ok (.value u) w') (h4 : ∀ A' : Act, A'.tmps.size = A.tmps.size ∧ A'.defers = A.defers → A'.eval (.tmp d) = u → (∀ k, d ≠ k → A'.eval (.tmp k) = A.eval (.tmp k)) → wpOps P ops Q rest A' w') : wpOps P ops Q (i :: rest) A w := by
  simp only [wpOps, h1, Region.wanted, h2, if_true]
  left
  unfold Oper.wp
  rw [h3, Oper.upon_value, hd]
  exact h4 _ ⟨put_size A _ u, rfl⟩ (put_same A u hs) (fun k hk => put_ne A u hk)

theorem run_cmp (W : World) {t t4 e : TypeId} {a : Option Addr} {cap : Nat} {xc : TypeId × String × Array Edge} (ht : P.underlying t = some (.slice e)) (A : Act) (hA : A.eval (.tmp 3) = .slice a 0 cap) :
    (execOp A.eval (ge (some 4) (.binOp .eql t (.tmp 3) (.const (.slice none 0 0)) t4) xc)).run P W = .ok (.value (.bool a.isNone)) W := by
  have he : (Op.equal t (.slice a 0 cap) (.slice none 0 0)).run P W = .ok a.isNone W := run_equalIn_slc W 9999 ht
  have h1 := (run_eql_any W he (by simp)).1
  have : execOp A.eval (ge (some 4) (.binOp .eql t (.tmp 3) (.const (.slice none 0 0)) t4) xc) = (do pure (Next.value (← (do eqGuard .eql t (.tmp 3) (.const (.slice none 0 0)) (A.eval (.tmp 3)) (.slice none 0 0); binOp .eql t (A.eval (.tmp 3)) (.slice none 0 0))))) := rfl
  rw [this, hA]
  have g : (eqGuard .eql t (.tmp 3) (.const (.slice none 0 0)) (.slice a 0 cap) (.slice none 0 0)).run P W = .ok () W := by simp [eqGuard]
  rw [Sem.run_bind, Sem.run_bind, g, Result.andThen_ok, h1]
  rfl

theorem run_build0 (W : World) {t e : TypeId} {ei : TypeInfo} {xe : TypeId × String × Array Edge} (ht : P.underlying t = some (.slice e)) (he : P.info? e = some ei) (A : Act) :
    (execOp A.eval (ge (some 5) (.buildSlice t 0 #[]) xe)).run P W = .ok (.value (.slice (some ⟨W.heap.size, 0, none⟩) 0 0)) { W with heap := W.heap.push (.cells #[] e) } := by
  have h0 : (Array.map (fun _ => (default : Value)) (Array.range 0)) = #[] := by apply Array.ext <;> simp
  simp [execOp, ge, Instr.buildSlice, run_underlying ht, sizeOf, typeInfo, he, Instr.fill, Go.newRow, h0]

theorem run_app0 {t e : TypeId} {ei : TypeInfo} {xg : TypeId × String × Array Edge} (ht : P.underlying t = some (.slice e)) (he : P.info? e = some ei) (A : Act) (w : World) (g ad : Addr) (cap : Nat) (h5 : A.eval (.tmp 5) = .slice (some g) 0 0) (h6 : A.eval (.tmp 6) = .slice (some ad) 0 cap) :
    (execOp A.eval (ge (some 7) (.call { callee := .builtin .append, args := #[.tmp 5, .tmp 6], argTypes := #[t, t] }) xg)).run P w = .ok (.value (.slice (some g) 0 0)) w := by
  have k1 : ∀ w', (loadCellsFrom ad 0 0 #[]).run P w' = .ok #[] w' := fun _ => rfl
  have k2 : ∀ w' a, (storeCells a []).run P w' = .ok () w' := fun _ _ => rfl
  simp [execOp, ge, resolve, invoke, builtin, Builtin.append_, h5, h6, run_underlying ht, sizeOf, typeInfo, he, Builtin.lenOf, Builtin.firstCells, loadCells, k1, k2]

theorem clone_wp (W : World) {t t4 e : TypeId} {ei : TypeInfo} {i0 i1 i2 i3 : Nat} {xa xb xc xd xe xf xg xh : TypeId × String × Array Edge} (ht : P.underlying t = some (.slice e)) (he : P.info? e = some ei) (a : Option Addr) (cap : Nat) (A : Act) (hsz : A.tmps.size = 8) (hdf : A.defers = []) (hA : A.eval (.tmp 0) = .slice a 0 cap)
    (Q : Exit → Act → World → Prop) (h1 : ∀ A' : Act, A'.defers = [] → A'.eval (.tmp 2) = .slice none 0 0 → a = none → Q .ret A' W) (h2 : ∀ A' : Act, ∀ g o, A'.defers = [] → A'.eval (.tmp 2) = .slice (some g) 0 0 → Q .ret A' { W with heap := W.heap.push o }) :
    (cloneCode t t4 i0 i1 i2 i3 xa xb xc xd xe xf xg xh).wp P Q A W := by
  unfold cloneCode
  refine wp_seq (wp_region (wp_step (d := 2) rfl rfl rfl (by omega) (w' := W) (u := .slice none 0 0) rfl ?_))
  intro A1 ⟨s1, d1⟩ _ n1
  refine wp_seq (wp_seq (wp_region (wp_step (d := 3) rfl rfl rfl (by omega) (w' := W) (u := .slice a 0 cap) ?_ ?_)))
  · show (pure (Next.value (A1.eval (.tmp 0))) : Sem Next).run P W = _
    rw [n1 0 (by decide), hA]
    rfl
  intro A2 ⟨s2, d2⟩ v2 n2
  refine wp_step (d := 4) rfl rfl rfl (by omega) (run_cmp W ht A2 v2) ?_
  intro A3 ⟨s3, d3⟩ v3 n3
  refine wp_cond (t := a.isNone) v3 ?_
  cases a with
  | none =>
    refine wp_seq (wp_region (wp_step (d := 2) rfl rfl rfl (by omega) (w' := W) (u := .slice none 0 0) rfl ?_))
    intro A4 ⟨_, d4⟩ v4 _
    exact wp_ret (h1 A4 (by rw [d4, d3, d2, d1, hdf]) v4 rfl)
  | some ad =>
    refine wp_skip ?_
    refine wp_seq (wp_region (wp_step (d := 5) rfl rfl rfl (by omega) (run_build0 W ht he A3) ?_))
    intro A4 ⟨s4, d4⟩ v4 n4
    refine wp_step (d := 6) rfl rfl rfl (by omega) (u := .slice (some ad) 0 cap) (w' := { W with heap := W.heap.push (.cells #[] e) }) ?_ ?_
    · show (pure (Next.value (A4.eval (.tmp 0))) : Sem Next).run P _ = _
      rw [n4 0 (by decide), n3 0 (by decide), n2 0 (by decide), n1 0 (by decide), hA]
      rfl
    intro A5 ⟨s5, d5⟩ v5 n5
    refine wp_step (d := 7) rfl rfl rfl (by omega) (run_app0 ht he A5 _ ⟨W.heap.size, 0, none⟩ ad cap (by rw [n5 5 (by decide), v4]) v5) ?_
    intro A6 ⟨s6, d6⟩ v6 n6
    refine wp_step (d := 2) rfl rfl rfl (by omega) (u := .slice (some ⟨W.heap.size, 0, none⟩) 0 0) (w' := { W with heap := W.heap.push (.cells #[] e) }) ?_ ?_
    · show (pure (Next.value (A6.eval (.tmp 7))) : Sem Next).run P _ = _
      rw [v6]
      rfl
    intro A7 ⟨_, d7⟩ v7 _
    exact wp_ret (h2 A7 _ _ (by rw [d7, d6, d5, d4, d3, d2, d1, hdf]) v7)

theorem clone_calls {f : FuncId} {fn : Func} {t t4 e : TypeId} {ei : TypeInfo} {i0 i1 i2 i3 : Nat} {xa xb xc xd xe xf xg xh : TypeId × String × Array Edge} (hf : P.funcs[f]? = some fn) (hb : fn.body = some (cloneCode t t4 i0 i1 i2 i3 xa xb xc xd xe xf xg xh))
    (hn : fn.ntmps = 8) (hres : fn.results = #[.tmp 2]) (ht : P.underlying t = some (.slice e)) (he : P.info? e = some ei) (a : Option Addr) (cap : Nat) (W : World) :
    Calls P f #[.slice a 0 cap] W fun en W' => (en = .returned (.slice none 0 0) ∧ W' = W) ∨ ∃ g, en = .returned (.slice (some g) 0 0) ∧ ∃ o, W' = { W with heap := W.heap.push o } := by
  refine calls_of_wp hf hb ?_
  rw [hn]
  refine clone_wp W ht he a cap _ rfl rfl rfl _ ?_ ?_
  · intro A' hd hA _
    exact ⟨hd, _, by rw [results_tmp hres], .inl ⟨by rw [show A'.tmps.getD 2 undef = _ from hA], rfl⟩⟩
  · intro A' g o hd hA
    exact ⟨hd, _, by rw [results_tmp hres], .inr ⟨g, by rw [show A'.tmps.getD 2 undef = _ from hA], o, rfl⟩⟩

theorem primEmpty_ok {f : FuncId} {fn : Func} {t t4 e : TypeId} {ei : TypeInfo} {i0 i1 i2 i3 : Nat} {xa xb xc xd xe xf xg xh : TypeId × String × Array Edge} (hf : P.funcs[f]? = some fn) (hnm : (fn.name == "runtime.NumGoroutine") = false) (hb : fn.body = some (cloneCode t t4 i0 i1 i2 i3 xa xb xc xd xe xf xg xh))
    (hn : fn.ntmps = 8) (hres : fn.results = #[.tmp 2]) (ht : P.underlying t = some (.slice e)) (he : P.info? e = some ei) : PrimOk P f primEmpty := by
  intro args out r h
  unfold primEmpty at h
  split at h
  · split at h
    · cases h
      refine ⟨⟨fn, _, hf, hb, hnm⟩, ?_⟩
      intro c w0 G X Lo vs hS hout hW hv
      obtain ⟨v, r, rfl, h1, h2⟩ := VL.of_cons hv
      have : r = [] := List.eq_nil_of_length_eq_zero (by simpa using h2.1.symm)
      subst this
      obtain ⟨a, cap, rfl⟩ := empty_V h1
      refine (clone_calls hf hb hn hres ht he a cap c.w).mono ?_
      rintro en W' (⟨rfl, rfl⟩ | ⟨g, rfl, o, rfl⟩)
      · exact ⟨c, _, rfl, by simpa [withKeys] using hS, hW, Le.refl c, V_empty none, rfl⟩
      · obtain ⟨g1, g2⟩ := hW.pushU o
        exact ⟨_, _, rfl, by simpa [withKeys] using hS, g1, g2, V_empty (some g), rfl⟩
    · cases h
  · cases h

end
end Go.Ab
/- slices.Clone, told. -/
namespace Go.Ab
open Go

section
variable {P : Program}

def cloneCfg (f : FuncId) : Cfg := { isF := fun g => decide (g = f), prim := fun _ => none, dyn := fun _ _ => [], keep := fun _ _ => none, byref := fun _ => false, thaw := fun _ => false }

def cloneG (P : Program) (f : FuncId) (args : List AV) (out : List Blk) : Option Ret :=
  match args with
  | [.slc x []] => primEmpty [.slc x []] out
  | [.slc x (e :: es)] => evF P (cloneCfg f) 1 f [.slc x (e :: es)] out
  | _ => none

def clonePK (P : Program) (f : FuncId) : PK := { D := Ret, dec := cloneG P f, out := .leaf }

theorem clonePK_G (f : FuncId) : (clonePK P f).G = cloneG P f := by
  funext args out
  unfold PK.G clonePK
  cases h : cloneG P f args out with
  | none => simp only [h]
  | some r => simp only [h]; rfl

theorem cloneG_ok (hm : P.follows .mixedOrders = true) {f : FuncId} (h : fnOkB P (cloneCfg f) f = true) (he : PrimOk P f primEmpty) : PrimOk P f (cloneG P f) := by
  have hF : FnOk P (evF P (cloneCfg f) 1) := ev_sound (cfg_ok hm (l := [f]) (fun g hg => by simpa [cloneCfg] using hg) (by simp [h]) (fun g q hq => by cases hq)) 1
  intro args out r hr
  unfold cloneG at hr
  split at hr
  · exact he hr
  · exact ⟨hF.there hr, hF.ok hr⟩
  · cases hr

def elemOfT (P : Program) (t : TypeId) : TypeId := match P.underlying t with | some (.slice e) => e | _ => 0

theorem primEmpty_of {f : FuncId} {fn : Func} {t t4 : TypeId} {i0 i1 i2 i3 : Nat} {ta tb tc td te tf tg th : TypeId} {sa sb sc sd se sf sg sh : String} {ea eb ec ed ee ef eg eh : Array Edge} (hf : P.funcs[f]? = some fn) (hb : fn.body = some (cloneCode t t4 i0 i1 i2 i3 (ta, sa, ea) (tb, sb, eb) (tc, sc, ec) (td, sd, ed) (te, se, ee) (tf, sf, ef) (tg, sg, eg) (th, sh, eh)))
    (hnm : (fn.name == "runtime.NumGoroutine") = false) (hn : fn.ntmps = 8) (hres : fn.results = #[.tmp 2]) (ht : P.underlying t = some (.slice (elemOfT P t))) (he : (P.info? (elemOfT P t)).isSome = true) : PrimOk P f primEmpty := by
  obtain ⟨ei, h⟩ := Option.isSome_iff_exists.1 he
  exact primEmpty_ok hf hnm hb hn hres ht h

theorem PKsOk.clone {pk : PKs} (h : PKsOk P pk) (hm : P.follows .mixedOrders = true) {f : FuncId} (hf : fnOkB P (cloneCfg f) f = true) (he : PrimOk P f primEmpty) : PKsOk P (pk.add f (clonePK P f)) := by
  intro g q hq
  unfold PKs.add at hq
  split at hq
  · rename_i hg
    cases hq
    subst hg
    rw [clonePK_G]
    exact cloneG_ok hm hf he
  · exact h g q hq

end
end Go.Ab
/- Loops: a round at a time. -/
namespace Go.Ab
open Go

section
variable {P : Program}

def loopsOf : Nat → Code → List (Nat × Code)
  | c, .seq a b => loopsOf c a ++ loopsOf c b
  | c, .cond _ a b => loopsOf c a ++ loopsOf c b
  | _, .block id b => loopsOf id b
  | c, .loop b => (c, b) :: loopsOf c b
  | _, _ => []

theorem at_mem : ∀ {c0 : Nat} {code : Code} {c : Nat} {b : Code}, At c0 code c (.loop b) → (c, b) ∈ loopsOf c0 code := by
  have key : ∀ {c0 : Nat} {code : Code} {c : Nat} {x : Code}, At c0 code c x → ∀ b, x = .loop b → (c, b) ∈ loopsOf c0 code := by
    intro c0 code c x h
    induction h with
    | here c b => rintro b rfl; simp [loopsOf]
    | seqL _ ih => intro b e; simp [loopsOf, ih b e]
    | seqR _ ih => intro b e; simp [loopsOf, ih b e]
    | condL _ ih => intro b e; simp [loopsOf, ih b e]
    | condR _ ih => intro b e; simp [loopsOf, ih b e]
    | block _ ih => intro b e; simp [loopsOf, ih b e]
    | loop _ ih => intro b e; simp [loopsOf, ih b e]
  intro c0 code c b h
  exact key h b rfl

theorem At.trans {c0 : Nat} {x : Code} {c1 : Nat} {y : Code} (h : At c0 x c1 y) {c2 : Nat} {z : Code} (h' : At c1 y c2 z) : At c0 x c2 z := by
  induction h with
  | here c b => exact h'
  | seqL _ ih => exact .seqL (ih h')
  | seqR _ ih => exact .seqR (ih h')
  | condL _ ih => exact .condL (ih h')
  | condR _ ih => exact .condR (ih h')
  | block _ ih => exact .block (ih h')
  | loop _ ih => exact .loop (ih h')

def codeOf (P : Program) (f : FuncId) : Code := match P.funcs[f]? with
  | some fn => match fn.body with
    | some c => c
    | none => .skip
  | none => .skip
def tmpsOf (P : Program) (f : FuncId) : Nat := match P.funcs[f]? with
  | some fn => fn.ntmps
  | none => 0

def findC (c : Nat) : List (Nat × Code) → Code
  | [] => .skip
  | (d, b) :: r => if d = c then b else findC c r

/-- The loop's round at a place. -/
def bodyAt (P : Program) (f c : Nat) : Code := findC c (loopsOf 0 (codeOf P f))

/-- One round, from a head to the next. -/
def stepK (P : Program) (cfg : Cfg) (pk : PKs) (lp : LPs) (f c : Nat) (st : St) : Option (St ⊕ (Ex × St)) :=
  codeK P (cfg.with pk) (evF P (cfg.with pk) 20) (evK P cfg pk 20) lp f (tmpsOf P f) c (bodyAt P f c) st fun e st' => match e with
    | .norm => match restrict ((cfg.with pk).keep f c) st' with
      | some s => some (.inl s)
      | none => none
    | .pan v => some (.inr (.pan v, st'))
    | e => match restrict ((cfg.with pk).keepX f c) st' with
      | some s => some (.inr (e, s))
      | none => none

/-- From a head to the loop's end, in so many rounds. -/
def Runs' (P : Program) (cfg : Cfg) (pk : PKs) (f c : Nat) (k : Nat) (st : St) (r : Ex × St) : Prop :=
  ∀ st0, restrict ((cfg.with pk).keep f c) st0 = some st → exitX (restrict ((cfg.with pk).keepX f c)) (aLoop (restrict ((cfg.with pk).keep f c)) (aCode P (cfg.with pk) (evF P (cfg.with pk) 20) f (tmpsOf P f) c (bodyAt P f c)) k st0) = some r

/-- All that is told of a function's loops is so. -/
def LPok (P : Program) (cfg : Cfg) (pk : PKs) (lp : LPs) (f : FuncId) : Prop := LoopsOk P (cfg.with pk) (evF P (cfg.with pk) 20) lp f (tmpsOf P f) 0 (codeOf P f)

theorem LPok.none {cfg : Cfg} {pk : PKs} {f : FuncId} : LPok P cfg pk (fun _ _ => Option.none) f := fun _ _ _ _ h => by cases h

theorem LPok.loops {cfg : Cfg} {pk : PKs} {lp : LPs} {f : FuncId} (h : LPok P cfg pk lp f) : FLoopsOk P (cfg.with pk) (evF P (cfg.with pk) 20) lp f := by
  intro fn c hfn hc
  have h1 : codeOf P f = c := by simp only [codeOf, hfn, hc]
  have h2 : tmpsOf P f = fn.ntmps := by simp only [tmpsOf, hfn]
  unfold LPok at h
  rwa [h1, h2] at h

theorem findC_mem {c : Nat} : ∀ {l : List (Nat × Code)} {b : Code}, (c, b) ∈ l → (l.map (·.1)).Nodup → findC c l = b
  | (d, x) :: r, b, h, hn => by
    unfold findC
    simp only [List.map_cons, List.nodup_cons] at hn
    rcases List.mem_cons.1 h with h | h
    · cases h; simp
    · by_cases hd : d = c
      · exfalso
        subst hd
        exact hn.1 (List.mem_map.2 ⟨_, h, rfl⟩)
      · rw [if_neg hd]
        exact findC_mem h hn.2

/-- Each place has one loop. -/
def OneLoops (P : Program) (f : FuncId) : Prop := ((loopsOf 0 (codeOf P f)).map (·.1)).Nodup

theorem step_at {cfg : Cfg} {pk : PKs} {lp : LPs} {f c : Nat} (h : LPok P cfg pk lp f) (hat : At 0 (codeOf P f) c (.loop (bodyAt P f c))) {st : St} {r : St ⊕ (Ex × St)} (hs : stepK P cfg pk lp f c st = some r) :
    ∃ e st', aCode P (cfg.with pk) (evF P (cfg.with pk) 20) f (tmpsOf P f) c (bodyAt P f c) st = some (e, st') ∧ (match e with
    | .norm => match restrict ((cfg.with pk).keep f c) st' with
      | some s => some (Sum.inl s)
      | none => none
    | .pan v => some (Sum.inr (.pan v, st'))
    | e => match restrict ((cfg.with pk).keepX f c) st' with
      | some s => some (Sum.inr (e, s))
      | none => none) = some r :=
  codeK_ok (evK_ok 20) (fun c' b' L ha hL => h c' b' L ((hat.trans (.loop ha))) hL) hs

theorem Runs'.step {cfg : Cfg} {pk : PKs} {lp : LPs} {f c : Nat} (h : LPok P cfg pk lp f) (hat : At 0 (codeOf P f) c (.loop (bodyAt P f c))) {st st1 : St} (hs : stepK P cfg pk lp f c st = some (.inl st1)) {k : Nat} {r : Ex × St} (hr : Runs' P cfg pk f c k st1 r) :
    Runs' P cfg pk f c (k + 1) st r := by
  obtain ⟨e, st', h1, h2⟩ := step_at h hat hs
  intro st0 h0
  unfold aLoop
  simp only [h0, h1]
  cases e with
  | norm =>
    simp only at h2 ⊢
    cases hres : restrict ((cfg.with pk).keep f c) st' with
    | none => rw [hres] at h2; cases h2
    | some s =>
      rw [hres] at h2
      cases h2
      exact hr st' hres
  | exit j => simp only at h2; split at h2 <;> cases h2
  | ret => simp only at h2; split at h2 <;> cases h2
  | pan v => cases h2

theorem Runs'.done {cfg : Cfg} {pk : PKs} {lp : LPs} {f c : Nat} (h : LPok P cfg pk lp f) (hat : At 0 (codeOf P f) c (.loop (bodyAt P f c))) {st : St} {r : Ex × St} (hs : stepK P cfg pk lp f c st = some (.inr r)) {k : Nat} :
    Runs' P cfg pk f c (k + 1) st r := by
  obtain ⟨e, st', h1, h2⟩ := step_at h hat hs
  intro st0 h0
  unfold aLoop
  simp only [h0, h1]
  cases e with
  | norm =>
    simp only at h2
    split at h2 <;> cases h2
  | exit j =>
    simp only at h2
    cases hres : restrict ((cfg.with pk).keepX f c) st' with
    | none => rw [hres] at h2; cases h2
    | some s => rw [hres] at h2; cases h2; simp only [exitX, hres]
  | ret =>
    simp only at h2
    cases hres : restrict ((cfg.with pk).keepX f c) st' with
    | none => rw [hres] at h2; cases h2
    | some s => rw [hres] at h2; cases h2; simp only [exitX, hres]
  | pan v => cases h2; rfl

theorem At_of_mem : ∀ {c0 : Nat} {code : Code} {c : Nat} {b : Code}, (c, b) ∈ loopsOf c0 code → At c0 code c (.loop b)
  | c0, .seq x y, c, b, h => by
    simp only [loopsOf, List.mem_append] at h
    rcases h with h | h
    · exact .seqL (At_of_mem h)
    · exact .seqR (At_of_mem h)
  | c0, .cond o x y, c, b, h => by
    simp only [loopsOf, List.mem_append] at h
    rcases h with h | h
    · exact .condL (At_of_mem h)
    · exact .condR (At_of_mem h)
  | c0, .block id x, c, b, h => by
    simp only [loopsOf] at h
    exact .block (At_of_mem h)
  | c0, .loop x, c, b, h => by
    simp only [loopsOf] at h
    rcases List.mem_cons.1 h with h | h
    · cases h; exact .here _ _
    · exact .loop (At_of_mem h)
  | _, .skip, _, _, h => by simp [loopsOf] at h
  | _, .region .., _, _, h => by simp [loopsOf] at h
  | _, .rangeFunc .., _, _, h => by simp [loopsOf] at h
  | _, .exit _, _, _, h => by simp [loopsOf] at h
  | _, .scope _, _, _, h => by simp [loopsOf] at h
  | _, .label _, _, _, h => by simp [loopsOf] at h
  | _, .goto _, _, _, h => by simp [loopsOf] at h
  | _, .ret, _, _, h => by simp [loopsOf] at h
  | _, .refuse _, _, _, h => by simp [loopsOf] at h

theorem at_body {f c : Nat} (hn : OneLoops P f) (hc : c ∈ (loopsOf 0 (codeOf P f)).map (·.1)) : At 0 (codeOf P f) c (.loop (bodyAt P f c)) := by
  obtain ⟨⟨d, b⟩, h1, rfl⟩ := List.mem_map.1 hc
  unfold bodyAt
  rw [findC_mem h1 hn]
  exact At_of_mem h1

def LPs.add (lp : LPs) (f c : Nat) (L : LP) : LPs := fun g d => if g = f ∧ d = c then some L else lp g d

theorem LPok.add {cfg : Cfg} {pk : PKs} {lp : LPs} {f c : Nat} (h : LPok P cfg pk lp f) (hn : OneLoops P f) {L : LP}
    (hL : ∀ st d, L.dec st = some d → Runs' P cfg pk f c rounds st (L.out d).val) : LPok P cfg pk (lp.add f c L) f := by
  intro c' b L' hat hlp st st1 d hr hd
  unfold LPs.add at hlp
  split at hlp
  · rename_i hc
    cases hlp
    obtain ⟨_, rfl⟩ := hc
    have hb : bodyAt P f c' = b := findC_mem (at_mem hat) hn
    subst hb
    exact hL st1 d hd st hr
  · exact h c' b L' hat hlp st st1 d hr hd

/-- What is told of a loop, by its heads. -/
noncomputable def LP.of {D : Type} (hd : D → St) (pre : D → Prop) (out : D → Alt (Ex × St)) : LP :=
  open Classical in { D := D, dec := fun st => if h : ∃ d, pre d ∧ st = hd d then some (Classical.choose h) else none, out := out }

theorem LP.of_dec {D : Type} {hd : D → St} {pre : D → Prop} {out : D → Alt (Ex × St)} {st : St} {d : D} (h : (LP.of hd pre out).dec st = some d) : pre d ∧ st = hd d := by
  unfold LP.of at h
  simp only at h
  split at h
  · rename_i hx
    cases h
    exact Classical.choose_spec hx
  · cases h

theorem oK_lp {R : Type} {D : Type} {hd : D → St} {pre : D → Prop} {out : D → Alt (Ex × St)} (hinj : ∀ d d', hd d = hd d' → d = d') (d : D) (hp : pre d) {k : D → Option R} {z : Option R} (hz : k d = z) :
    oK ((LP.of hd pre out).dec (hd d)) k = z := by
  have hx : ∃ d', pre d' ∧ hd d = hd d' := ⟨d, hp, rfl⟩
  have : (LP.of hd pre out).dec (hd d) = some d := by
    unfold LP.of
    simp only
    rw [dif_pos hx]
    congr 1
    exact (hinj _ _ (Classical.choose_spec hx).2).symm
  rw [this]
  show oK (α := D) (some d) k = z
  rw [oK_some]
  exact hz

theorem oK_lpq {R : Type} {D : Type} {hd : D → St} {pre : D → Prop} {out : D → Alt (Ex × St)} (hinj : ∀ d d', hd d = hd d' → d = d') (d : D) (hp : pre d) {k : D → Option R} {Q : Option R → Prop} (hz : Q (k d)) :
    Q (oK ((LP.of hd pre out).dec (hd d)) k) := by
  rw [oK_lp (k := k) (z := k d) hinj d hp rfl]
  exact hz

theorem LPok.addH {cfg : Cfg} {pk : PKs} {lp : LPs} {f c : Nat} (h : LPok P cfg pk lp f) (hn : OneLoops P f) {D : Type} {hd : D → St} {pre : D → Prop} {out : D → Alt (Ex × St)}
    (hL : ∀ d, pre d → Runs' P cfg pk f c rounds (hd d) (out d).val) : LPok P cfg pk (lp.add f c (LP.of hd pre out)) f :=
  h.add hn fun st d hd' => by
    obtain ⟨h1, rfl⟩ := LP.of_dec hd'
    exact hL d h1

theorem map_inj {agg : Bool} {fs : List Lf} (hok : okV agg fs = true) {l l' : List (Tu fs)} (h : l.map (mkV agg fs) = l'.map (mkV agg fs)) : l = l' := by
  have e1 := dec_fl hok true l
  have e2 := dec_fl hok true l'
  rw [h, e2] at e1
  cases e1; rfl
theorem mk_inj {fs : List Lf} (hok : Tu.ok fs = true) {d d' : Tu fs} (h : Tu.mk fs d = Tu.mk fs d') : d = d' := by
  have e1 := Tu.dec_of hok d []
  have e2 := Tu.dec_of hok d' []
  rw [h, e2] at e1
  cases e1; rfl

/-- It says yes. -/
def Yes (r : Option Ret) : Prop := r = some { pan := false, res := .bool true, out := [], new := [] }
theorem yes_leaf : Yes (some { pan := false, res := .bool true, out := [], new := [] }) := rfl
theorem yes_of {b : Bool} (h : b = true) : Yes (some { pan := false, res := .bool b, out := [], new := [] }) := by rw [h]; rfl

theorem yes_law {cfg : Cfg} {pk : PKs} {lp : LPs} {f : FuncId} (hp : pk f = none) (hl : FLoopsOk P (cfg.with pk) (evF P (cfg.with pk) 20) lp f) {args : List AV} (h : Yes (unitQ P cfg pk lp true f args [])) :
    ∃ r, evF P (cfg.with pk) 21 f args [] = some r ∧ r.pan = false ∧ r.res = .bool true := by
  obtain ⟨q, h1, h2⟩ := funcK_ok (evK_ok 20) hl h
  simp only [if_true] at h2
  cases h2
  have : (cfg.with pk).prim f = none := by simp only [Cfg.with, hp]
  exact ⟨_, by simp only [evF, this]; exact h1, rfl, rfl⟩

theorem ldRow_map {fs : List Lf} (hok : Tu.ok fs = true) (l : List (Tu fs)) {i : Nat} (x : Tu fs) (h : i < l.length) : ldRow fs (l.map (mkV true fs)) i 0 = some (l.getD i x) := by
  have e : (l.map (mkV true fs))[i]? = some (mkV true fs l[i]) := by rw [List.getElem?_map, List.getElem?_eq_getElem h]; rfl
  unfold ldRow
  rw [e]
  have : l.getD i x = l[i] := by simp [List.getD, h]
  rw [this]
  show ldCells fs (Tu.mk fs l[i]) 0 = _
  exact ldCells_mk (agg := true) hok _

/-- For the bench: a loop's head as it is first met. -/
def headK (P : Program) (cfg : Cfg) (pk : PKs) (lp : LPs) (f c : Nat) (args : List AV) (out : List Blk) : Option (Ex × St) :=
  codeK P (cfg.with pk) (evF P (cfg.with pk) 20) (evK P cfg pk 20) (LPs.add lp f c { D := St, dec := some, out := fun st => .leaf (.exit 999999, st) }) f (tmpsOf P f) 0 (codeOf P f) { fr := paramsFr 0 args, bs := outerSt out, df := [] } fun e st => some (e, st)
end
end Go.Ab
/- slices.Clone, told of open lists: the empty one by hand. -/
namespace Go.Ab
open Go

section
variable {P : Program}

theorem unitT_ok {cfg : Cfg} {pk : PKs} {lp : LPs} {f : FuncId} (hp : pk f = none) (hl : FLoopsOk P (cfg.with pk) (evF P (cfg.with pk) 20) lp f) {args : List AV} {out : List Blk} {r : Ret} (h : unitQ P cfg pk lp true f args out = some r) :
    evF P (cfg.with pk) 21 f args out = some r := by
  obtain ⟨q, h1, h2⟩ := funcK_ok (evK_ok 20) hl h
  have : (cfg.with pk).prim f = none := by simp only [Cfg.with, hp]
  rw [if_pos rfl] at h2
  cases h2
  simp only [evF, this]
  exact h1

theorem PKsOk.cl {cfg : Cfg} {pk : PKs} (h : PKsOk P pk) (hF : FnOk P (evF P (cfg.with pk) 21)) (f : FuncId) (hf : pk f = Option.none) (he : PrimOk P f primEmpty) (lp : LPs) (hl : FLoopsOk P (cfg.with pk) (evF P (cfg.with pk) 20) lp f) (p : FS)
    (hu : ∀ d, p.pre d → (∃ x, p.args d = [.slc x []] ∧ p.ret d = { pan := false, res := .slc true [], out := [], new := [] }) ∨ unitQ P cfg pk lp true f (p.args d) [] = some (p.ret d)) : PKsOk P (pk.add f p.pk) := by
  intro g q hq
  unfold PKs.add at hq
  split at hq
  · rename_i hg
    cases hq
    subst hg
    intro args out r hr
    unfold PK.G at hr
    split at hr
    · rename_i d hd
      cases hr
      obtain ⟨rfl, rfl, hp⟩ := FS.dec_ok hd
      rcases hu d hp with ⟨x, h1, h2⟩ | h1
      · exact he (by rw [h1]; show some _ = some (p.ret d); rw [h2])
      · have := unitT_ok hf hl h1
        exact ⟨hF.there this, hF.ok this⟩
    · cases hr
  · exact h g q hq

theorem PKsOk.take {pk pk' : PKs} (h : PKsOk P pk) (h' : PKsOk P pk') {f : FuncId} {q : PK} (hf : pk' f = some q) : PKsOk P (pk.add f q) := by
  intro g r hr
  unfold PKs.add at hr
  split at hr
  · rename_i hg
    cases hr
    subst hg
    exact h' g q hf
  · exact h g r hr

/-- What is told of a function, by what it is called with. -/
noncomputable def PK.of {D : Type} (arg : D → List AV × List Blk) (pre : D → Prop) (out : D → Alt Ret) : PK :=
  open Classical in { D := D, dec := fun a o => if h : ∃ d, pre d ∧ (a, o) = arg d then some (Classical.choose h) else none, out := out }

theorem PK.of_dec {D : Type} {arg : D → List AV × List Blk} {pre : D → Prop} {out : D → Alt Ret} {a : List AV} {o : List Blk} {d : D} (h : (PK.of arg pre out).dec a o = some d) : pre d ∧ (a, o) = arg d := by
  unfold PK.of at h
  simp only at h
  split at h
  · rename_i hx
    cases h
    exact Classical.choose_spec hx
  · cases h

theorem oK_pkq {R : Type} {D : Type} {arg : D → List AV × List Blk} {pre : D → Prop} {out : D → Alt Ret} (hinj : ∀ d d', arg d = arg d' → d = d') (d : D) (hp : pre d) {k : D → Option R} {Q : Option R → Prop} (hz : Q (k d)) :
    Q (oK ((PK.of arg pre out).dec (arg d).1 (arg d).2) k) := by
  have hx : ∃ d', pre d' ∧ ((arg d).1, (arg d).2) = arg d' := ⟨d, hp, rfl⟩
  have : (PK.of arg pre out).dec (arg d).1 (arg d).2 = some d := by
    unfold PK.of
    simp only
    rw [dif_pos hx]
    congr 1
    exact (hinj _ _ (Classical.choose_spec hx).2).symm
  rw [this]
  show Q (oK (α := D) (some d) k)
  rw [oK_some]
  exact hz

theorem PKsOk.of {cfg : Cfg} {pk : PKs} (h : PKsOk P pk) (hF : FnOk P (evF P (cfg.with pk) 21)) (f : FuncId) (hf : pk f = Option.none) (lp : LPs) (hl : FLoopsOk P (cfg.with pk) (evF P (cfg.with pk) 20) lp f) {D : Type} (arg : D → List AV × List Blk) (pre : D → Prop) (out : D → Alt Ret) (o : Bool)
    (hs : ∀ d, (arg d).2.length ≤ 1000) (hu : ∀ d, pre d → unitQ P cfg pk lp o f (arg d).1 (arg d).2 = some (out d).val) : PKsOk P (pk.add f (PK.of arg pre out)) :=
  h.addW hF fun args ou d hd => by
    obtain ⟨hp, hargs⟩ := PK.of_dec hd
    have e1 : args = (arg d).1 := congrArg Prod.fst hargs
    have e2 : ou = (arg d).2 := congrArg Prod.snd hargs
    subst e1
    subst e2
    obtain ⟨q, h1, h2⟩ := unitQ_ok hf hl (hu d hp)
    exact ⟨hs d, q, h1, h2⟩

theorem PKsOk.prim {pk : PKs} (h : PKsOk P pk) {f : FuncId} {g : List AV → List Blk → Option Ret} (hg : PrimOk P f g) (p : FS) (hu : ∀ d, p.pre d → g (p.args d) [] = some (p.ret d)) : PKsOk P (pk.add f p.pk) := by
  intro k q hq
  unfold PKs.add at hq
  split at hq
  · rename_i hk
    cases hq
    subst hk
    intro args out r hr
    unfold PK.G at hr
    split at hr
    · rename_i d hd
      cases hr
      obtain ⟨rfl, rfl, hp⟩ := FS.dec_ok hd
      exact hg (hu d hp)
    · cases hr
  · exact h k q hq

end
end Go.Ab
/- What is told of one call, whatever it was shown with. -/
namespace Go.Ab
open Go

section
variable {P : Program}

/-- A call comes back so. -/
def CallOk (P : Program) (f : FuncId) (args : List AV) (out : List Blk) (r : Ret) : Prop := Callable P f ∧
  ∀ {c : Cx} {w0 : World} {G X Lo : Nat → Prop} {vs : List Value}, c.S = outerSt out → (∀ x ∈ out, x.v = 0) → WR w0 G X Lo c → VL c args vs → Calls P f vs.toArray c.w (CallPost w0 G X Lo c r)

theorem CallOk.unit {cfg : Cfg} {pk : PKs} (hF : FnOk P (evF P (cfg.with pk) 21)) {f : FuncId} (hf : pk f = Option.none) {lp : LPs} (hl : FLoopsOk P (cfg.with pk) (evF P (cfg.with pk) 20) lp f) {o : Bool} {args : List AV} {out : List Blk} {r : Ret}
    (hlen : out.length ≤ 1000) (hu : unitQ P cfg pk lp o f args out = some r) : CallOk P f args out r := by
  obtain ⟨q, h1, h2⟩ := unitQ_ok hf hl hu
  refine ⟨hF.there h1, fun hS hout hW hv => ?_⟩
  rcases h2 with rfl | h2
  · exact hF.ok h1 hS hout hW hv
  · exact (hF.ok h1 hS hout hW hv).mono fun e w' hpost => weaken_ok hpost hS hlen h2

theorem CallOk.prim {f : FuncId} {g : List AV → List Blk → Option Ret} (hg : PrimOk P f g) {args : List AV} {out : List Blk} {r : Ret} (h : g args out = some r) : CallOk P f args out r := hg h

theorem PKsOk.any {pk : PKs} (h : PKsOk P pk) (f : FuncId) {D : Type} (arg : D → List AV × List Blk) (pre : D → Prop) (out : D → Alt Ret) (hu : ∀ d, pre d → CallOk P f (arg d).1 (arg d).2 (out d).val) : PKsOk P (pk.add f (PK.of arg pre out)) := by
  intro g q hq
  unfold PKs.add at hq
  split at hq
  · rename_i hg
    cases hq
    subst hg
    intro args ou r hr
    unfold PK.G at hr
    split at hr
    · rename_i d hd
      cases hr
      obtain ⟨hp, hargs⟩ := PK.of_dec hd
      have e1 : args = (arg d).1 := congrArg Prod.fst hargs
      have e2 : ou = (arg d).2 := congrArg Prod.snd hargs
      subst e1
      subst e2
      exact hu d hp
    · cases hr
  · exact h g q hq

theorem PKsOk.anyF {pk : PKs} (h : PKsOk P pk) (f : FuncId) (p : FS) (hu : ∀ d, p.pre d → CallOk P f (p.args d) [] (p.ret d)) : PKsOk P (pk.add f p.pk) := by
  intro g q hq
  unfold PKs.add at hq
  split at hq
  · rename_i hg
    cases hq
    subst hg
    intro args ou r hr
    unfold PK.G at hr
    split at hr
    · rename_i d hd
      cases hr
      obtain ⟨rfl, rfl, hp⟩ := FS.dec_ok hd
      exact hu d hp
    · cases hr
  · exact h g q hq

theorem PKsOk.anyM {pk : PKs} (h : PKsOk P pk) (f : FuncId) (p : MS) (hu : ∀ b d, p.pre b d → CallOk P f (p.args d) (p.out0 b) (p.ret b d)) : PKsOk P (pk.add f p.pk) := by
  intro g q hq
  unfold PKs.add at hq
  split at hq
  · rename_i hg
    cases hq
    subst hg
    intro args ou r hr
    unfold PK.G at hr
    split at hr
    · rename_i d hd
      cases hr
      obtain ⟨rfl, rfl, hp⟩ := MS.dec_ok hd
      exact hu d.1 d.2 hp
    · cases hr
  · exact h g q hq
end
end Go.Ab
