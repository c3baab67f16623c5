/- What comes back of a call, as a value alone. -/
import Derived.Test.YtihgfpggdkhhaaaAbK3
set_option linter.unusedVariables false
set_option linter.unusedSimpArgs false
namespace Go.Ab
open Go

def pureT (bs : List (Nat × Blk)) : AV → Option AV
  | .tup vs => match mapO (pureA bs) vs with
    | some l => some (.tup l)
    | none => none
  | v => pureA bs v

def outKeys (n : Nat) : List Nat := (List.range n).map (outBase + ·)

/-- What is new is a value, and nobody's. -/
def pureRet (r : Ret) : Option Ret :=
  if r.out.length ≤ 1000 ∧ (rowsT r.res).all (fun b => decide (newBase ≤ b)) = true ∧ (r.out.all fun x => x.es.all (okRefs (outKeys r.out.length))) = true then
    match pureT (withKeys newBase 0 r.new) r.res with
    | some v => some { pan := r.pan, res := v, out := r.out, new := [] }
    | none => none
  else none

section
variable {R : Type}

def pureTK (bs : List (Nat × Blk)) (a : AV) (K : AV → Option R) : Option R :=
  match a with
  | .tup vs => mapK (pureAK bs) vs fun l => K (.tup l)
  | a => pureAK bs a K

theorem pureTK_ok {bs : List (Nat × Blk)} (a : AV) (K : AV → Option R) (r : R) (h : pureTK bs a K = some r) : ∃ b, pureT bs a = some b ∧ K b = some r := by
  unfold pureTK at h
  split at h
  · obtain ⟨l, h1, h2⟩ := mapK_ok pureAK_ok h
    exact ⟨_, by simp only [pureT, h1], h2⟩
  · rename_i hn
    obtain ⟨b, h1, h2⟩ := pureAK_ok _ _ _ h
    refine ⟨b, ?_, h2⟩
    unfold pureT
    split
    · exact absurd rfl (hn _)
    · exact h1

def pureRetK (r : Ret) (K : Ret → Option R) : Option R :=
  if r.out.length ≤ 1000 ∧ (rowsT r.res).all (fun b => decide (newBase ≤ b)) = true ∧ (r.out.all fun x => x.es.all (okRefs (outKeys r.out.length))) = true then
    pureTK (withKeys newBase 0 r.new) r.res fun v => K { pan := r.pan, res := v, out := r.out, new := [] }
  else none

theorem pureRetK_ok {q : Ret} {K : Ret → Option R} {r : R} (h : pureRetK q K = some r) : ∃ p, pureRet q = some p ∧ K p = some r := by
  unfold pureRetK at h
  split at h
  · rename_i hc
    obtain ⟨v, h1, h2⟩ := pureTK_ok _ _ _ h
    exact ⟨_, by unfold pureRet; rw [if_pos hc]; simp only [h1], h2⟩
  · cases h
end

section
variable {P : Program} {w0 : World} {G X Lo : Nat → Prop}

theorem pureC_congrW {S S' : List (Nat × Blk)} {a a' : AV} (h : ∀ b ∈ rowsC a, look S b = look S' b) (hp : pureC S a = some a') : pureC S' a = some a' := by
  unfold pureC at hp ⊢
  split at hp
  · cases hp
  · cases hp
  · rename_i h1 h2
    cases a with
    | sref b v off len =>
      simp only [renC, pureM, ldBlk] at hp ⊢
      rw [← h b (by simp [rowsC])]
      exact hp
    | eptr e o => exact absurd rfl (h1 _ _)
    | ptr b v i o => exact absurd rfl (h2 _ _ _ _)
    | fn f a b => cases a <;> cases b <;> exact hp
    | _ => exact hp

theorem mapO_congrW {α β : Type} {f g : α → Option β} : ∀ {l : List α} {r : List β}, (∀ a ∈ l, ∀ b, f a = some b → g a = some b) → mapO f l = some r → mapO g l = some r
  | [], r, _, h => h
  | a :: l, r, hf, h => by
    unfold mapO at h ⊢
    split at h
    · rename_i b hb
      rw [hf a (by simp) b hb]
      split at h
      · rename_i bs hbs
        cases h
        rw [mapO_congrW (fun a ha b hb => hf a (by simp [ha]) b hb) hbs]
      · cases h
    · cases h

theorem pureA_congrW {S S' : List (Nat × Blk)} {a a' : AV} (h : ∀ b ∈ rowsA a, look S b = look S' b) (hp : pureA S a = some a') : pureA S' a = some a' := by
  unfold pureA at hp ⊢
  split at hp
  · rename_i cs
    split at hp
    · rename_i l hl
      cases hp
      rw [mapO_congrW (fun c hc b hb => pureC_congrW (fun k hk => h k ?_) hb) hl]
      simp only [rowsA, List.mem_flatMap]
      exact ⟨c, hc, hk⟩
    · cases hp
  · rename_i hna
    refine pureC_congrW (fun b hb => h b ?_) hp
    cases a <;> first | exact hb | exact absurd rfl (hna _)

theorem pureT_ok {c : Cx} (h : WR w0 G X Lo c) {l : List Nat} {c' : Cx} (f : FrzTo w0 G X Lo c c' l) {a a' : AV} {v : Value} (hl : ∀ b ∈ rowsT a, b ∈ l) (hv : V c a v) (hr : pureT c.S a = some a') : PV c'.w c'.F a' v := by
  unfold pureT at hr
  split at hr
  · rename_i vs
    split at hr
    · rename_i r hr'
      cases hr
      obtain ⟨us, rfl, h1, h3⟩ := hv.tup_inv
      have key : ∀ (as rs : List AV) (us : List Value), (∀ b ∈ as.flatMap rowsA, b ∈ l) → VL c as us → mapO (pureA c.S) as = some rs → rs.length = us.length ∧ ∀ (i : Nat) a v, rs[i]? = some a → us[i]? = some v → PV c'.w c'.F a v := by
        intro as
        induction as with
        | nil =>
          intro rs us _ hv hr
          simp [mapO] at hr; subst hr
          have : us = [] := List.eq_nil_of_length_eq_zero (by simpa using hv.1.symm)
          subst this
          exact ⟨rfl, fun _ _ _ h => by simp at h⟩
        | cons a as ih =>
          intro rs us hl hv hr
          obtain ⟨u, us', rfl, g1, g2⟩ := VL.of_cons hv
          unfold mapO at hr
          split at hr
          · rename_i b hb
            split at hr
            · rename_i bs hbs
              cases hr
              obtain ⟨i1, i2⟩ := ih bs us' (fun b hb => hl b (by simp only [List.flatMap_cons, List.mem_append]; exact .inr hb)) g2 hbs
              have p1 := (pureA_ok h f (fun b hb => hl b (by simp only [List.flatMap_cons, List.mem_append]; exact .inl hb)) g1 hb).1
              refine ⟨by simp [i1], fun i x y e1 e2 => ?_⟩
              cases i with
              | zero => simp at e1 e2; subst e1; subst e2; exact p1
              | succ i => simp at e1 e2; exact i2 i x y e1 e2
            · cases hr
          · cases hr
      obtain ⟨q1, q2⟩ := key vs r us (by simpa [rowsT] using hl) ⟨h1, h3⟩ hr'
      exact .tup r us q1 q2
    · cases hr
  · rename_i hnt
    refine (pureA_ok h f (fun b hb => hl b ?_) hv hr).1
    cases a <;> first | exact hb | exact absurd rfl (hnt _)

theorem weaken_ok {c : Cx} {r r' : Ret} {e : Ending} {w' : World} {out : List Blk} (h : CallPost w0 G X Lo c r e w') (hc : c.S = outerSt out) (hlen : out.length ≤ 1000) (hp : pureRet r = some r') : CallPost w0 G X Lo c r' e w' := by
  obtain ⟨c1, v, rfl, hS, hW, hL, hV, he⟩ := h
  unfold pureRet at hp
  split at hp
  case isFalse => cases hp
  rename_i hcond
  obtain ⟨h1, h2, h3⟩ := hcond
  split at hp
  case h_2 => cases hp
  rename_i v' hv'
  cases hp
  have hrows : ∀ b ∈ rowsT r.res, newBase ≤ b := fun b hb => of_decide_eq_true (List.all_eq_true.1 h2 b hb)
  obtain ⟨c2, F⟩ := freezeTo hW (rowsT r.res)
  have hout : ∀ b, b < newBase → look c1.S b = look (outerSt r.out) b := by
    intro b hb
    rw [hS, look_app, look_withKeys]
    rw [if_neg (by omega)]
    split <;> simp_all
  have hnew : ∀ b, newBase ≤ b → look c1.S b = look (withKeys newBase 0 r.new) b := by
    intro b hb
    rw [hS, look_app]
    have : look (outerSt r.out) b = none := by
      unfold outerSt
      rw [look_withKeys]
      split
      · rw [List.getElem?_eq_none]
        simp [outBase, newBase] at hb ⊢
        omega
      · rfl
    rw [this]
  have hlt : ∀ b x, look (outerSt r.out) b = some x → b < newBase ∧ b ∈ outKeys r.out.length := by
    intro b x hb
    unfold outerSt at hb
    rw [look_withKeys] at hb
    split at hb
    · rename_i hle
      have := (List.getElem?_eq_some_iff.1 hb).1
      refine ⟨by simp [outBase, newBase] at hle this ⊢; omega, ?_⟩
      simp only [outKeys, List.mem_map, List.mem_range]
      exact ⟨b - (outBase + 0), this, by simp at hle ⊢; omega⟩
    · cases hb
  have hc2 : ∀ b, b < newBase → look c2.S b = look (outerSt r.out) b := by
    intro b hb
    rw [F.S, look_freeze, hout b hb]
    have : b ∉ rowsT r.res := fun hm => by have := hrows b hm; omega
    simp [this]
  let c3 : Cx := { w := c2.w, R := c2.R, S := outerSt r.out, F := fOf X c2.R (outerSt r.out) }
  have hsub : ∀ b x, look c3.S b = some x → look c2.S b = some x := fun b x hb => by rw [hc2 b (hlt b x hb).1]; exact hb
  have K : Keep c2 c3 := by
    refine ⟨rfl, rfl, ?_, hsub⟩
    rintro i (hx | ⟨b, x, g1, g2, g3, g4⟩)
    · exact (F.wr.hF i).2 (.inl hx)
    · exact (F.wr.hF i).2 (.inr ⟨b, x, hsub b x g1, g2, g3, g4⟩)
  have hall : ∀ b ∈ outKeys r.out.length, look c3.S b = look c2.S b := by
    intro b hb
    simp only [outKeys, List.mem_map, List.mem_range] at hb
    obtain ⟨i, hi, rfl⟩ := hb
    rw [hc2 _ (by simp [outBase, newBase]; omega)]
  have hW3 : WR w0 G X Lo c3 := by
    refine ⟨F.wr.size, F.wr.kept, F.wr.os, F.wr.out, F.wr.xs, fun b x hb hd => F.wr.own b x (hsub b x hb) hd, fun b x hb hd => F.wr.low b x (hsub b x hb) hd,
      fun b b' x x' hb hd hb' hd' e => F.wr.inj b b' x x' (hsub b x hb) hd (hsub b' x' hb') hd' e, fun b x hb hd => ?_, fun _ => Iff.rfl⟩
    obtain ⟨cells, t, lo, hi, g1, g2, g3, g4⟩ := (F.wr.blk b x (hsub b x hb) hd).here
    refine ⟨cells, t, lo, hi, g1, g2, fun hk => ?_, fun hk => ⟨(g4 hk).1, fun k a ha => let ⟨v, v1, v2⟩ := (g4 hk).2 k a ha; ⟨v, v1, K.pv v2⟩⟩⟩
    intro k a ha
    obtain ⟨q1, v, q2, q3⟩ := g3 hk k a ha
    have hx : x ∈ r.out := by
      have hb' : look (outerSt r.out) b = some x := hb
      unfold outerSt at hb'
      rw [look_withKeys] at hb'
      split at hb'
      · exact List.mem_of_getElem? hb'
      · cases hb'
    have := List.all_eq_true.1 h3 x hx
    exact ⟨q1, v, q2, K.v hall (List.all_eq_true.1 this a (List.mem_of_getElem? ha)) q3⟩
  have hL2 : Le c c2 := hL.trans F.le
  refine ⟨c3, v, F.w, by simp [withKeys, c3], hW3, ?_, ?_, he⟩
  · refine ⟨hL2.size, fun b hb hf hf' => hL2.hF b hb hf (K.F b hf'), hL2.hw, fun b x hx => ?_⟩
    obtain ⟨x', g1, g2, g3⟩ := hL2.hS b x hx
    refine ⟨x', ?_, g2, g3⟩
    have hb : b < newBase := by
      rw [hc] at hx
      unfold outerSt at hx
      rw [look_withKeys] at hx
      split at hx
      · rename_i hle
        have := (List.getElem?_eq_some_iff.1 hx).1
        simp [outBase, newBase] at hle this ⊢
        omega
      · cases hx
    rw [← hc2 b hb]; exact g1
  · refine .pure (K.pv (pureT_ok hW F (fun b hb => hb) hV ?_))
    unfold pureT at hv' ⊢
    cases hres : r.res with
    | tup vs =>
      rw [hres] at hv' hrows
      simp only at hv' ⊢
      split at hv'
      · rename_i l hl
        cases hv'
        rw [mapO_congrW (fun a ha b hb => pureA_congrW (fun k hk => ?_) hb) hl]
        have hk' : k ∈ rowsT (.tup vs) := by simp only [rowsT, List.mem_flatMap]; exact ⟨a, ha, hk⟩
        rw [hnew k (hrows k hk')]
      · cases hv'
    | _ =>
      rw [hres] at hv' hrows
      simp only at hv' ⊢
      refine pureA_congrW (fun k hk => ?_) hv'
      rw [hnew k (hrows k hk)]

/-- What is told of a function, as values. -/
theorem PKsOk.addW {pk : PKs} (h : PKsOk P pk) {f : FuncId} {p : PK} {callF : CallF} (hF : FnOk P callF)
    (hp : ∀ args out d, p.dec args out = some d → out.length ≤ 1000 ∧ ∃ r, callF f args out = some r ∧ (r = (p.out d).val ∨ pureRet r = some (p.out d).val)) : PKsOk P (pk.add f p) := by
  intro g q hq
  unfold PKs.add at hq
  split at hq
  · rename_i hg
    cases hq
    subst hg
    intro args out r hr
    unfold PK.G at hr
    split at hr
    · rename_i d hd
      cases hr
      obtain ⟨hl, r, hc, hr⟩ := hp _ _ _ hd
      refine ⟨hF.there hc, fun hS hout hW hv => ?_⟩
      rcases hr with rfl | hr
      · exact hF.ok hc hS hout hW hv
      · exact (hF.ok hc hS hout hW hv).mono fun e w' hpost => weaken_ok hpost hS hl hr
    · cases hr
  · exact h g q hq
end
end Go.Ab
