/- Regions whose order is drawn: any order will do. -/
import Derived.Test.YtacpbgkljdgmlaaAbDraw
set_option linter.unusedVariables false
set_option linter.unusedSimpArgs false
namespace Go.Ab
open Go

section
variable {P : Program} {w0 : World} {G X Lo : Nat → Prop}

theorem Sim.sub {n : Nat} {c0 c : Cx} {st st' : St} {a : Act} (h : Sim w0 G X Lo n c0 c st a) (hb : ∀ b, look st'.bs b = look st.bs b) (hf : ∀ t v, look st'.fr t = some v → look st.fr t = some v) (hd : st'.df = st.df) :
    ∃ c', c'.w = c.w ∧ Sim w0 G X Lo n c0 c' st' a := by
  let c' : Cx := { c with S := st'.bs }
  have hl : ∀ b, look c'.S b = look c.S b := fun b => by show look st'.bs b = _; rw [hb, h.S]
  have L : Le c c' := ⟨Nat.le_refl _, fun _ _ hf => hf, fun _ _ _ => rfl, fun b x hx => ⟨x, by rw [hl]; exact hx, Nat.le_refl _, fun _ _ => ⟨rfl, rfl, rfl, fun _ => rfl, id, fun cells t fr hc => ⟨cells, t, fr, hc, rfl⟩⟩⟩⟩
  refine ⟨c', rfl, rfl, ?_, h.le.trans L, ?_, ?_⟩
  · refine ⟨h.wr.size, h.wr.kept, h.wr.os, h.wr.out, h.wr.xs, fun b x hx hd => h.wr.own b x (by rw [← hl]; exact hx) hd, fun b x hx hd => h.wr.low b x (by rw [← hl]; exact hx) hd,
      fun b b' x x' hx hd hx' hd' e => h.wr.inj b b' x x' (by rw [← hl]; exact hx) hd (by rw [← hl]; exact hx') hd' e, fun b x hx hd => ?_, fun i => ?_⟩
    · obtain ⟨cells, t, lo, hi, g1, g2, g3, g4⟩ := (h.wr.blk b x (by rw [← hl]; exact hx) hd).here
      exact ⟨cells, t, lo, hi, g1, g2, fun k => (g3 k).mono L, fun k => ⟨(g4 k).1, (g4 k).2.mono L⟩⟩
    · rw [show c'.F i ↔ c.F i from Iff.rfl, h.wr.hF]
      constructor
      · rintro (hx | ⟨b, x, g⟩)
        · exact .inl hx
        · exact .inr ⟨b, x, by rw [hl]; exact g.1, g.2⟩
      · rintro (hx | ⟨b, x, g⟩)
        · exact .inl hx
        · exact .inr ⟨b, x, by rw [← hl]; exact g.1, g.2⟩
  · exact ⟨h.fr.size, fun t v ht => h.fr.lt t v (hf t v ht), fun t v ht => (h.fr.rel t v (hf t v ht)).mono L⟩
  · rw [hd]; exact h.df.mono L

theorem Sim.congr {n : Nat} {c0 c : Cx} {st st' : St} {a : Act} (h : Sim w0 G X Lo n c0 c st a) (hb : ∀ b, look st'.bs b = look st.bs b) (hf : ∀ t, look st'.fr t = look st.fr t) (hd : st'.df = st.df) :
    ∃ c', c'.w = c.w ∧ Sim w0 G X Lo n c0 c' st' a := h.sub hb (fun t v ht => by rw [← hf]; exact ht) hd

def cnt (D : Nat → Bool) : Nat → Nat
  | 0 => 0
  | n + 1 => cnt D n + (if D n then 0 else 1)

theorem cnt_zero {D : Nat → Bool} : ∀ {n : Nat}, cnt D n = 0 → ∀ k, k < n → D k = true
  | 0, _, k, hk => absurd hk (by omega)
  | n + 1, h, k, hk => by
    simp only [cnt] at h
    have h1 : cnt D n = 0 := by omega
    by_cases e : k = n
    · subst e
      cases hD : D k with
      | true => rfl
      | false => rw [hD] at h; simp at h
    · exact cnt_zero h1 k (by omega)

theorem cnt_same {D D' : Nat → Bool} : ∀ {n : Nat}, (∀ k, k < n → D' k = D k) → cnt D' n = cnt D n
  | 0, _ => rfl
  | n + 1, h => by simp only [cnt]; rw [cnt_same (fun k hk => h k (by omega)), h n (by omega)]

theorem cnt_set {D D' : Nat → Bool} {i : Nat} (hi : D i = false) (hi' : D' i = true) (h : ∀ k, k ≠ i → D' k = D k) : ∀ {n : Nat}, i < n → cnt D' n + 1 = cnt D n
  | 0, hn => absurd hn (by omega)
  | n + 1, hn => by
    simp only [cnt]
    by_cases e : i = n
    · subst e
      rw [cnt_same (fun k hk => h k (by omega)), hi, hi']
      simp
    · have := cnt_set hi hi' h (n := n) (by omega)
      rw [h n (fun h => e h.symm)]
      omega

/-- Two operations that may stand in any order. -/
def Indep (ops : Array Oper) (r r' : Rec) : Prop :=
  r.o.apart ops r'.o = true ∧ (∀ b, look r.ds b ≠ none → b ∉ r'.rd ∧ look r'.ds b = none) ∧ ∀ b, look r'.ds b ≠ none → b ∉ r.rd ∧ look r.ds b = none

theorem any_ok {cfg : Cfg} {callF : CallF} (hF : FnOk P callF) {n : Nat} {ops : Array Oper} {c0 : Cx} {st st' : St} {T : List Rec} (hT : Runs P cfg callF n ops 0 ops.toList st T st')
    (hpair : ∀ r ∈ T, ∀ r' ∈ T, r.i < r'.i → (r.o.dst = none ∨ r.o.dst ≠ r'.o.dst) ∧ (r.i ∈ (ancAll [] ops.toList).getD r'.i [] ∨ Indep ops r r'))
    (hback : ∀ (j : Nat) o, ops[j]? = some o → ∀ e ∈ o.after.toList, Region.binds .any e = true → e.on < j) :
    ∀ (fuel : Nat) (listed : Array Bool) (a : Act) (w : World), listed.size = ops.size → Closed ops (fun k => listed.getD k false = true) → cnt (fun k => listed.getD k false) ops.size ≤ fuel →
      (∃ c sD, c.w = w ∧ Sim w0 G X Lo n c0 c sD a ∧ (∀ b, look sD.bs b = lookB (fun k => listed.getD k false) T b (look st.bs b)) ∧ (∀ t, look sD.fr t = lookF (fun k => listed.getD k false) T t (look st.fr t)) ∧ sD.df = st.df) →
      wpAny P .any ops (Post w0 G X Lo n c0 .norm st') fuel listed a w := by
  obtain ⟨hR1, hR2⟩ := Runs.at hT (fun j => by simp)
  have hLk := Runs.look hT
  have fin : ∀ (listed : Array Bool) (a : Act) (w : World), (∀ k, k < ops.size → listed.getD k false = true) →
      (∃ c sD, c.w = w ∧ Sim w0 G X Lo n c0 c sD a ∧ (∀ b, look sD.bs b = lookB (fun k => listed.getD k false) T b (look st.bs b)) ∧ (∀ t, look sD.fr t = lookF (fun k => listed.getD k false) T t (look st.fr t)) ∧ sD.df = st.df) →
      Post w0 G X Lo n c0 .norm st' .normal a w := by
    rintro listed a w hall ⟨c, sD, hw, hs, h1, h2, h3⟩
    have hin : ∀ r ∈ T, r.i < ops.size := fun r hr => (Array.getElem?_eq_some_iff.1 (hR1 r hr).2.1).1
    obtain ⟨c', g1, g2⟩ := hs.congr (st' := st')
      (fun b => by rw [hLk.1, h1]; exact lookB_eq (fun r hr _ => (hall r.i (hin r hr)).symm))
      (fun t => by rw [hLk.2.1, h2]; exact lookF_eq (fun r hr _ => (hall r.i (hin r hr)).symm))
      (by rw [hLk.2.2, h3])
    exact ⟨c', by rw [g1, hw], g2, rfl⟩
  intro fuel
  induction fuel with
  | zero =>
    intro listed a w hsz hcl hcnt hI
    have hall := cnt_zero (Nat.le_zero.1 hcnt)
    refine ⟨?_, fin listed a w hall hI⟩
    cases hr : Region.ready .any ops listed with
    | nil => rfl
    | cons j l =>
      have hj : j ∈ Region.ready .any ops listed := by rw [hr]; simp
      obtain ⟨g1, o, g2, _⟩ := mem_ready.1 hj
      have hlt := (Array.getElem?_eq_some_iff.1 g2).1
      have := hall j hlt
      simp [Array.getD, hsz, hlt] at this g1
      rw [this] at g1; cases g1
  | succ fuel ih =>
    intro listed a w hsz hcl hcnt hI
    refine ⟨fun hr => fin listed a w ?_ hI, fun i hi => ?_⟩
    · intro k
      induction k using Nat.strongRecOn with
      | _ k ihk =>
        intro hk
        cases hD : listed.getD k false with
        | true => rfl
        | false =>
          exfalso
          have : k ∈ Region.ready .any ops listed := by
            rw [mem_ready]
            refine ⟨by simpa [Array.getD, hsz, hk] using hD, ops[k], Array.getElem?_eq_getElem hk, fun e he hb => ?_⟩
            have := hback k _ (Array.getElem?_eq_getElem hk) e (by simpa using he) hb
            exact ihk e.on this (by omega)
          rw [hr] at this; simp at this
    · obtain ⟨g1, o, hio, hdep⟩ := mem_ready.1 hi
      have hilt := (Array.getElem?_eq_some_iff.1 hio).1
      have hDi : listed.getD i false = false := by simp [Array.getD, hsz, hilt] at g1 ⊢; exact g1
      obtain ⟨c, sD, hw, hs, hb, hf, hdf⟩ := hI
      obtain ⟨T1, r, T2, rfl, e1, e2, e3, e4, hb1, hf1, hdf1⟩ := hR2 i o (Nat.zero_le _) hio
      obtain ⟨_, _, hstep, st1, hput⟩ := hR1 r (by simp)
      have hdep' : ∀ e ∈ o.after.toList, Region.binds .any e = true → listed.getD e.on false = true := fun e he hb => hdep e (by simpa using he) hb
      have hanc := ancAll_ready hcl hio hdep' (fun e he hb => hback i o hio e he hb)
      -- those ahead of it
      have hT1 : ∀ r' ∈ T1, listed.getD r'.i false = true ∨ Indep ops r' r := by
        intro r' hr'
        have := (hpair r' (by simp [hr']) r (by simp) (by rw [e1]; exact e3 r' hr')).2
        rw [e1] at this
        rcases this with h | h
        · exact .inl (hanc _ h (by have := e3 r' hr'; omega))
        · exact .inr h
      have hT2 : ∀ r' ∈ T2, listed.getD r'.i false = false ∨ Indep ops r r' := by
        intro r' hr'
        have hlt := e4 r' hr'
        have := (hpair r (by simp) r' (by simp [hr']) (by rw [e1]; exact hlt)).2
        rcases this with h | h
        · left
          cases hD : listed.getD r'.i false with
          | false => rfl
          | true =>
            exfalso
            have hi' : r.i ∈ (ancAll [] ops.toList).getD r'.i [] := h
            have := ancAll_sub hcl ops.toList [] (fun j => by simp) (fun k _ x hx => by simp at hx) r'.i hD r.i hi'
            rw [e1, hDi] at this; cases this
        · exact .inr h
      have agF : ∀ t ∈ o.looksAt ops, look sD.fr t = look r.st.fr t := by
        intro t ht
        rw [hf, hf1, lookF_app, lookF_none (T := r :: T2)]
        · refine lookF_eq (fun r' hr' hd => ?_)
          rcases hT1 r' hr' with h | h
          · exact h
          · exfalso
            exact (Oper.apart_spec h.1).1 t hd (by rw [e2]; exact ht)
        · intro r' hr' hD hd
          rcases List.mem_cons.1 hr' with rfl | hr'
          · rw [e1, hDi] at hD; cases hD
          · rcases hT2 r' hr' with h | h
            · rw [h] at hD; cases hD
            · exact (Oper.apart_spec h.1).2.2 t hd (by rw [e2]; exact ht)
      have agB : ∀ b ∈ r.rd, look sD.bs b = look r.st.bs b := by
        intro b hbr
        rw [hb, hb1, lookB_app, lookB_none (T := r :: T2)]
        · refine lookB_eq (fun r' hr' hd => ?_)
          rcases hT1 r' hr' with h | h
          · exact h
          · exact absurd hbr (h.2.1 b hd).1
        · intro r' hr' hD
          rcases List.mem_cons.1 hr' with rfl | hr'
          · rw [e1, hDi] at hD; cases hD
          · rcases hT2 r' hr' with h | h
            · rw [h] at hD; cases hD
            · cases hl : look r'.ds b with
              | none => rfl
              | some x => exact absurd hbr (h.2.2 b (by rw [hl]; simp)).1
      have hev : ∀ x ∈ o.op.operands, sD.ev x = r.st.ev x := by
        intro x hx
        cases x with
        | tmp t =>
          show (look sD.fr t).getD .undef = (look r.st.fr t).getD .undef
          rw [agF t (List.mem_append_left _ (List.mem_filterMap.2 ⟨.tmp t, by simpa using hx, rfl⟩))]
        | _ => rfl
      have hwt : aWanted ops sD o = aWanted ops r.st o := by
        unfold aWanted
        cases hg : o.guard with
        | none => rfl
        | some gw =>
          obtain ⟨j, want⟩ := gw
          simp only
          cases hj : ops[j]? with
          | none => rfl
          | some g =>
            simp only
            cases hd : g.dst with
            | none => rfl
            | some d =>
              simp only
              rw [agF d (by simp [Oper.looksAt, hg, hj, hd])]
      -- the next state
      have hD' : ∀ k, (listed.setIfInBounds i true).getD k false = if k = i then true else listed.getD k false := by
        intro k
        by_cases e : k = i
        · subst e; simp [hsz, hilt]
        · rw [if_neg e, getD_set_ne false (fun h => e h.symm)]
      have hcl' : Closed ops (fun k => (listed.setIfInBounds i true).getD k false = true) := by
        intro j oj hj hDj e he hb'
        simp only [hD'] at hDj ⊢
        split
        · rfl
        · by_cases ej : j = i
          · subst ej
            have : oj = o := Option.some.inj (hj.symm.trans hio)
            subst this
            exact hdep' e he hb'
          · rw [if_neg ej] at hDj
            exact hcl j oj hj hDj e he hb'
      have hcnt' : cnt (fun k => (listed.setIfInBounds i true).getD k false) ops.size ≤ fuel := by
        have := cnt_set (D := fun k => listed.getD k false) (D' := fun k => (listed.setIfInBounds i true).getD k false) hDi (by simp only [hD']; simp) (fun k hk => by simp only [hD']; rw [if_neg hk]) hilt
        omega
      have hputs : ∃ s', sD.put n o.dst r.v r.ds = some s' := by
        rw [e2] at hput
        unfold St.put at hput ⊢
        split at hput
        · split at hput
          · rename_i hlt; exact ⟨_, by rw [if_pos hlt]⟩
          · cases hput
        · exact ⟨_, rfl⟩
      obtain ⟨s', hs'⟩ := hputs
      obtain ⟨k1, k2, k3⟩ := put_look hs'
      have hB' : ∀ b, look s'.bs b = lookB (fun k => (listed.setIfInBounds i true).getD k false) (T1 ++ r :: T2) b (look st.bs b) := by
        intro b
        rw [k1, hb]
        cases hl : look r.ds b with
        | none =>
          refine lookB_eq (fun r' hr' hd => ?_)
          simp only [hD']
          split
          · rename_i hri
            exfalso
            have : r' = r := by
              rcases List.mem_append.1 hr' with h | h
              · have := e3 r' h; omega
              · rcases List.mem_cons.1 h with rfl | h
                · rfl
                · have := e4 r' h; omega
            subst this
            exact hd hl
          · rfl
        | some x =>
          simp only
          rw [lookB_app]
          simp only [lookB, hl, e1, hD', if_true]
          rw [lookB_none]
          intro r' hr' hDr
          rw [if_neg (by have := e4 r' hr'; omega)] at hDr
          rcases hT2 r' hr' with h | h
          · rw [h] at hDr; cases hDr
          · exact (h.2.1 b (by rw [hl]; simp)).2
      have hF' : ∀ t, look s'.fr t = lookF (fun k => (listed.setIfInBounds i true).getD k false) (T1 ++ r :: T2) t (look st.fr t) := by
        intro t
        rw [k2, hf]
        split
        · rename_i hd
          rw [lookF_app]
          simp only [lookF, e1, hD', if_true, e2, hd]
          rw [lookF_none]
          intro r' hr' hDr hd'
          have hlt := e4 r' hr'
          rcases (hpair r (by simp) r' (by simp [hr']) (by rw [e1]; exact hlt)).1 with h | h
          · rw [e2, hd] at h; cases h
          · rw [e2, hd, hd'] at h; exact h rfl
        · rename_i hd
          refine lookF_eq (fun r' hr' hd' => ?_)
          simp only [hD']
          split
          · rename_i hri
            exfalso
            have : r' = r := by
              rcases List.mem_append.1 hr' with h | h
              · have := e3 r' h; omega
              · rcases List.mem_cons.1 h with rfl | h
                · rfl
                · have := e4 r' h; omega
            subst this
            rw [e2] at hd'
            exact hd hd'
          · rfl
      unfold wpOp
      simp only [hio]
      subst hw
      rcases hstep with ⟨s1, s2, s3, s4⟩ | ⟨s1, s2, s3⟩
      · rw [e2, ← hwt] at s1
        rw [if_neg (by rw [wanted_ok hs.fr s1]; decide)]
        rw [s2, s3] at hs'
        exact ih _ _ _ (by simpa using hsz) hcl' hcnt' ⟨c, s', rfl, hs.skip hs', hB', hF', k3.trans hdf⟩
      · rw [e2, ← hwt] at s1
        rw [if_pos (wanted_ok hs.fr s1)]
        left
        have hop : aOp P cfg callF sD o = some (.val r.v r.ds) := by
          rw [e2] at s2
          refine frame hev (fun b hb => agB b ?_) s2
          rw [s3, e2]; exact hb
        exact op_ok hF hs.wr hs.S hs.fr hop _ _ (fun u c1 q1 q2 q3 q4 => ih _ _ _ (by simpa using hsz) hcl' hcnt' ⟨c1, s', rfl, hs.put hs' q1 q2 q3 q4, hB', hF', k3.trans hdf⟩)

theorem runsP_of {cfg : Cfg} {callF : CallF} {n : Nat} {ops : Array Oper} : ∀ (rest : List Oper) (i : Nat) (st : St) (p : Nat) (stp : St), aOpsP P cfg callF n ops i rest st = some (p, stp) →
    i ≤ p ∧ p < i + rest.length ∧ ∃ T, Runs P cfg callF n ops i (rest.take (p - i)) st T stp
  | [], i, st, p, stp, h => by cases h
  | o :: rest, i, st, p, stp, h => by
    simp only [aOpsP] at h
    have next : ∀ (r : Rec) (st1 : St), r.i = i → r.o = o → r.st = st → StepR P cfg callF ops r → st.put n o.dst r.v r.ds = some st1 → aOpsP P cfg callF n ops (i + 1) rest st1 = some (p, stp) →
        i ≤ p ∧ p < i + (o :: rest).length ∧ ∃ T, Runs P cfg callF n ops i ((o :: rest).take (p - i)) st T stp := by
      intro r st1 e1 e2 e3 hs hput hh
      obtain ⟨g1, g2, T, g3⟩ := runsP_of rest (i + 1) st1 p stp hh
      refine ⟨by omega, by simp; omega, r :: T, ?_⟩
      rw [show p - i = (p - (i + 1)) + 1 by omega, List.take_succ_cons]
      exact ⟨r, st1, T, e1, e2, e3, hs, hput, rfl, g3⟩
    split at h
    · cases h
    · rename_i hw
      split at h
      · rename_i st1 hp
        exact next ⟨i, o, st, .skp, [], []⟩ st1 rfl rfl rfl (.inl ⟨hw, rfl, rfl, rfl⟩) hp h
      · cases h
    · rename_i hw
      split at h
      · rename_i v ds hop
        split at h
        · rename_i st1 hp
          exact next ⟨i, o, st, v, ds, readsK cfg st o⟩ st1 rfl rfl rfl (.inr ⟨hw, hop, rfl⟩) hp h
        · cases h
      · rename_i v ds hop
        cases h
        refine ⟨Nat.le_refl _, by simp, [], ?_⟩
        rw [Nat.sub_self, List.take_zero]
        exact ⟨rfl, rfl⟩
      · cases h

theorem RunsP.at {cfg : Cfg} {callF : CallF} {n : Nat} {ops : Array Oper} : ∀ {rest : List Oper} {i : Nat} {st st' : St} {T : List Rec}, Runs P cfg callF n ops i rest st T st' → (∀ j, j < rest.length → rest[j]? = ops[i + j]?) →
    (∀ r ∈ T, i ≤ r.i ∧ r.i < i + rest.length ∧ ops[r.i]? = some r.o ∧ StepR P cfg callF ops r ∧ ∃ st1, r.st.put n r.o.dst r.v r.ds = some st1) ∧
    ∀ (k : Nat) o, i ≤ k → k < i + rest.length → ops[k]? = some o → ∃ T1 r T2, T = T1 ++ r :: T2 ∧ r.i = k ∧ r.o = o ∧ (∀ r' ∈ T1, r'.i < k) ∧ (∀ r' ∈ T2, k < r'.i) ∧
      (∀ b, Ab.look r.st.bs b = lookB (fun _ => true) T1 b (Ab.look st.bs b)) ∧ (∀ t, Ab.look r.st.fr t = lookF (fun _ => true) T1 t (Ab.look st.fr t)) ∧ r.st.df = st.df
  | [], i, st, st', T, h, hl => by
    obtain ⟨rfl, rfl⟩ := h
    exact ⟨fun r hr => by simp at hr, fun k o hk hk2 ho => absurd hk2 (by simp; omega)⟩
  | o :: rest, i, st, st', T, h, hl => by
    obtain ⟨r, st1, T', e1, e2, e3, h1, h2, rfl, h3⟩ := h
    have hl' : ∀ j, j < rest.length → rest[j]? = ops[i + 1 + j]? := fun j hj => by have := hl (j + 1) (by simp; omega); simpa [Nat.add_assoc, Nat.add_comm 1 j] using this
    have h0 : ops[i]? = some o := by simpa using (hl 0 (by simp)).symm
    obtain ⟨g1, g2⟩ := RunsP.at h3 hl'
    obtain ⟨k1, k2, k3⟩ := put_look h2
    refine ⟨fun r' hr' => ?_, fun k o' hk hk2 ho' => ?_⟩
    · rcases List.mem_cons.1 hr' with rfl | hr'
      · exact ⟨by omega, by simp; omega, by rw [e1, e2]; exact h0, h1, st1, by rw [e3, e2]; exact h2⟩
      · obtain ⟨a1, a0, a2, a3, a4⟩ := g1 r' hr'
        exact ⟨by omega, by simp; omega, a2, a3, a4⟩
    · by_cases he : k = i
      · subst he
        have : o' = o := Option.some.inj (ho'.symm.trans h0)
        subst this
        refine ⟨[], r, T', rfl, e1, e2, fun r' hr' => by simp at hr', fun r' hr' => by have := (g1 r' hr').1; omega, fun b => by rw [e3]; rfl, fun t => by rw [e3]; rfl, by rw [e3]⟩
      · obtain ⟨T1, r', T2, rfl, q1, q2, q3, q4, q5, q6, q7⟩ := g2 k o' (by omega) (by simp at hk2; omega) ho'
        refine ⟨r :: T1, r', T2, rfl, q1, q2, fun x hx => ?_, q4, fun b => ?_, fun t => ?_, q7.trans k3⟩
        · rcases List.mem_cons.1 hx with rfl | hx
          · omega
          · exact q3 x hx
        · rw [q5, k1]; rfl
        · rw [q6, k2, ← e2]; rfl

theorem look_filter {fr : List (Nat × AV)} {q : Nat → Bool} {t : Nat} {v : AV} (h : look (fr.filter fun x => q x.1) t = some v) : q t = true ∧ look fr t = some v := by
  induction fr with
  | nil => cases h
  | cons x r ih =>
    obtain ⟨j, a⟩ := x
    by_cases hq : q j = true
    · rw [List.filter_cons_of_pos (by simpa using hq), look_cons] at h
      rw [look_cons]
      split at h
      · rename_i e; subst e; cases h; exact ⟨hq, by simp⟩
      · rename_i e; rw [if_neg e]; exact ih h
    · rw [List.filter_cons_of_neg (by simpa using hq)] at h
      obtain ⟨h1, h2⟩ := ih h
      refine ⟨h1, ?_⟩
      rw [look_cons]
      split
      · rename_i e; subst e; exact absurd h1 hq
      · exact h2

theorem any_pan {cfg : Cfg} {callF : CallF} (hF : FnOk P callF) {n : Nat} {ops : Array Oper} {c0 : Cx} {st stp stq : St} {T : List Rec} {p : Nat} {op : Oper} {v : AV} {ds : List (Nat × Blk)} (hop : ops[p]? = some op) (hT : Runs P cfg callF n ops 0 (ops.toList.take p) st T stp)
    (hpair : ∀ r ∈ T, ∀ r' ∈ T, r.i < r'.i → (r.o.dst = none ∨ r.o.dst ≠ r'.o.dst) ∧ (r.i ∈ (ancAll [] ops.toList).getD r'.i [] ∨ Indep ops r r'))
    (hback : ∀ (j : Nat) o, ops[j]? = some o → ∀ e ∈ o.after.toList, Region.binds .any e = true → e.on < j)
    (hbefore : ∀ r ∈ T, r.i ∈ (ancAll [] ops.toList).getD p [] ∨ r.ds = [])
    (hafter : ∀ j, p < j → j < ops.size → p ∈ (ancAll [] ops.toList).getD j [])
    (hq1 : stq.bs = stp.bs) (hq2 : ∀ t u, look stq.fr t = some u → look stp.fr t = some u ∧ ∀ r ∈ T, r.o.dst = some t → r.i ∈ (ancAll [] ops.toList).getD p []) (hq3 : stq.df = stp.df)
    (hwq : aWanted ops stq op = some true) (hpan : aOp P cfg callF stq op = some (.pan v ds)) :
    ∀ (fuel : Nat) (listed : Array Bool) (a : Act) (w : World), listed.size = ops.size → Closed ops (fun k => listed.getD k false = true) → listed.getD p false = false → cnt (fun k => listed.getD k false) ops.size ≤ fuel →
      (∃ c sD, c.w = w ∧ Sim w0 G X Lo n c0 c sD a ∧ (∀ b, look sD.bs b = lookB (fun k => listed.getD k false) T b (look st.bs b)) ∧ (∀ t, look sD.fr t = lookF (fun k => listed.getD k false) T t (look st.fr t)) ∧ sD.df = st.df) →
      wpAny P .any ops (Post w0 G X Lo n c0 (.pan v) { stq with bs := ds ++ stq.bs }) fuel listed a w := by
  have hplt : p < ops.size := (Array.getElem?_eq_some_iff.1 hop).1
  have hlen : (ops.toList.take p).length = p := by simp; omega
  obtain ⟨hR1, hR2⟩ := RunsP.at hT (fun j hj => by
    rw [hlen] at hj
    rw [List.getElem?_take, if_pos hj]; simp)
  rw [hlen] at hR1 hR2
  have hLk := Runs.look hT
  intro fuel
  induction fuel with
  | zero =>
    intro listed a w hsz hcl hDp hcnt hI
    exfalso
    have := cnt_zero (Nat.le_zero.1 hcnt) p hplt
    rw [hDp] at this; cases this
  | succ fuel ih =>
    intro listed a w hsz hcl hDp hcnt hI
    refine ⟨fun hr => ?_, fun i hi => ?_⟩
    · exfalso
      have hall : ∀ k, k < ops.size → listed.getD k false = true := by
        intro k
        induction k using Nat.strongRecOn with
        | _ k ihk =>
          intro hk
          cases hD : listed.getD k false with
          | true => rfl
          | false =>
            exfalso
            have : k ∈ Region.ready .any ops listed := by
              rw [mem_ready]
              refine ⟨by simpa [Array.getD, hsz, hk] using hD, ops[k], Array.getElem?_eq_getElem hk, fun e he hb => ?_⟩
              have := hback k _ (Array.getElem?_eq_getElem hk) e (by simpa using he) hb
              exact ihk e.on this (by omega)
            rw [hr] at this; simp at this
      have := hall p hplt
      rw [hDp] at this; cases this
    · obtain ⟨g1, o, hio, hdep⟩ := mem_ready.1 hi
      have hilt := (Array.getElem?_eq_some_iff.1 hio).1
      have hDi : listed.getD i false = false := by simp [Array.getD, hsz, hilt] at g1 ⊢; exact g1
      obtain ⟨c, sD, hw, hs, hb, hf, hdf⟩ := hI
      have hdep' : ∀ e ∈ o.after.toList, Region.binds .any e = true → listed.getD e.on false = true := fun e he hb => hdep e (by simpa using he) hb
      have hanc := ancAll_ready hcl hio hdep' (fun e he hb => hback i o hio e he hb)
      rcases Nat.lt_trichotomy i p with hip | hip | hip
      case inr.inr =>
        exfalso
        have := hanc _ (hafter i hip hilt) (by omega)
        rw [hDp] at this; cases this
      case inr.inl =>
        subst hip
        have : o = op := Option.some.inj (hio.symm.trans hop)
        subst this
        have hDr : ∀ r ∈ T, r.i ∈ (ancAll [] ops.toList).getD i [] → listed.getD r.i false = true := fun r hr h => hanc _ h (by have := (hR1 r hr).2.1; omega)
        obtain ⟨c', w1, hs'⟩ := hs.sub (st' := stq)
          (fun b => by
            rw [hq1, hLk.1, hb]
            refine (lookB_eq (fun r hr hd => ?_)).symm
            rcases hbefore r hr with h | h
            · exact hDr r hr h
            · rw [h] at hd; exact absurd rfl hd)
          (fun t u ht => by
            obtain ⟨h1, h2⟩ := hq2 t u ht
            rw [hf, ← h1, hLk.2.1]
            exact lookF_eq (fun r hr hd => hDr r hr (h2 r hr hd)))
          (by rw [hq3, hLk.2.2, hdf])
        unfold wpOp
        simp only [hio]
        rw [if_pos (wanted_ok hs'.fr hwq)]
        left
        subst hw
        rw [← w1]
        refine op_ok hF hs'.wr hs'.S hs'.fr hpan _ _ (fun u c1 k1 k2 k3 k4 => ?_)
        exact ⟨c1, rfl, ⟨by rw [k1, hs'.S], k2, hs'.le.trans k3, hs'.fr.mono k3, hs'.df.mono k3⟩, u, k4, rfl⟩
      have hDp' : (listed.setIfInBounds i true).getD p false = false := by rw [getD_set_ne false (by omega)]; exact hDp
      obtain ⟨T1, r, T2, rfl, e1, e2, e3, e4, hb1, hf1, hdf1⟩ := hR2 i o (Nat.zero_le _) (by omega) hio
      obtain ⟨_, _, _, hstep, st1, hput⟩ := hR1 r (by simp)
      -- those ahead of it
      have hT1 : ∀ r' ∈ T1, listed.getD r'.i false = true ∨ Indep ops r' r := by
        intro r' hr'
        have := (hpair r' (by simp [hr']) r (by simp) (by rw [e1]; exact e3 r' hr')).2
        rw [e1] at this
        rcases this with h | h
        · exact .inl (hanc _ h (by have := e3 r' hr'; omega))
        · exact .inr h
      have hT2 : ∀ r' ∈ T2, listed.getD r'.i false = false ∨ Indep ops r r' := by
        intro r' hr'
        have hlt := e4 r' hr'
        have := (hpair r (by simp) r' (by simp [hr']) (by rw [e1]; exact hlt)).2
        rcases this with h | h
        · left
          cases hD : listed.getD r'.i false with
          | false => rfl
          | true =>
            exfalso
            have hi' : r.i ∈ (ancAll [] ops.toList).getD r'.i [] := h
            have := ancAll_sub hcl ops.toList [] (fun j => by simp) (fun k _ x hx => by simp at hx) r'.i hD r.i hi'
            rw [e1, hDi] at this; cases this
        · exact .inr h
      have agF : ∀ t ∈ o.looksAt ops, look sD.fr t = look r.st.fr t := by
        intro t ht
        rw [hf, hf1, lookF_app, lookF_none (T := r :: T2)]
        · refine lookF_eq (fun r' hr' hd => ?_)
          rcases hT1 r' hr' with h | h
          · exact h
          · exfalso
            exact (Oper.apart_spec h.1).1 t hd (by rw [e2]; exact ht)
        · intro r' hr' hD hd
          rcases List.mem_cons.1 hr' with rfl | hr'
          · rw [e1, hDi] at hD; cases hD
          · rcases hT2 r' hr' with h | h
            · rw [h] at hD; cases hD
            · exact (Oper.apart_spec h.1).2.2 t hd (by rw [e2]; exact ht)
      have agB : ∀ b ∈ r.rd, look sD.bs b = look r.st.bs b := by
        intro b hbr
        rw [hb, hb1, lookB_app, lookB_none (T := r :: T2)]
        · refine lookB_eq (fun r' hr' hd => ?_)
          rcases hT1 r' hr' with h | h
          · exact h
          · exact absurd hbr (h.2.1 b hd).1
        · intro r' hr' hD
          rcases List.mem_cons.1 hr' with rfl | hr'
          · rw [e1, hDi] at hD; cases hD
          · rcases hT2 r' hr' with h | h
            · rw [h] at hD; cases hD
            · cases hl : look r'.ds b with
              | none => rfl
              | some x => exact absurd hbr (h.2.2 b (by rw [hl]; simp)).1
      have hev : ∀ x ∈ o.op.operands, sD.ev x = r.st.ev x := by
        intro x hx
        cases x with
        | tmp t =>
          show (look sD.fr t).getD .undef = (look r.st.fr t).getD .undef
          rw [agF t (List.mem_append_left _ (List.mem_filterMap.2 ⟨.tmp t, by simpa using hx, rfl⟩))]
        | _ => rfl
      have hwt : aWanted ops sD o = aWanted ops r.st o := by
        unfold aWanted
        cases hg : o.guard with
        | none => rfl
        | some gw =>
          obtain ⟨j, want⟩ := gw
          simp only
          cases hj : ops[j]? with
          | none => rfl
          | some g =>
            simp only
            cases hd : g.dst with
            | none => rfl
            | some d =>
              simp only
              rw [agF d (by simp [Oper.looksAt, hg, hj, hd])]
      -- the next state
      have hD' : ∀ k, (listed.setIfInBounds i true).getD k false = if k = i then true else listed.getD k false := by
        intro k
        by_cases e : k = i
        · subst e; simp [hsz, hilt]
        · rw [if_neg e, getD_set_ne false (fun h => e h.symm)]
      have hcl' : Closed ops (fun k => (listed.setIfInBounds i true).getD k false = true) := by
        intro j oj hj hDj e he hb'
        simp only [hD'] at hDj ⊢
        split
        · rfl
        · by_cases ej : j = i
          · subst ej
            have : oj = o := Option.some.inj (hj.symm.trans hio)
            subst this
            exact hdep' e he hb'
          · rw [if_neg ej] at hDj
            exact hcl j oj hj hDj e he hb'
      have hcnt' : cnt (fun k => (listed.setIfInBounds i true).getD k false) ops.size ≤ fuel := by
        have := cnt_set (D := fun k => listed.getD k false) (D' := fun k => (listed.setIfInBounds i true).getD k false) hDi (by simp only [hD']; simp) (fun k hk => by simp only [hD']; rw [if_neg hk]) hilt
        omega
      have hputs : ∃ s', sD.put n o.dst r.v r.ds = some s' := by
        rw [e2] at hput
        unfold St.put at hput ⊢
        split at hput
        · split at hput
          · rename_i hlt; exact ⟨_, by rw [if_pos hlt]⟩
          · cases hput
        · exact ⟨_, rfl⟩
      obtain ⟨s', hs'⟩ := hputs
      obtain ⟨k1, k2, k3⟩ := put_look hs'
      have hB' : ∀ b, look s'.bs b = lookB (fun k => (listed.setIfInBounds i true).getD k false) (T1 ++ r :: T2) b (look st.bs b) := by
        intro b
        rw [k1, hb]
        cases hl : look r.ds b with
        | none =>
          refine lookB_eq (fun r' hr' hd => ?_)
          simp only [hD']
          split
          · rename_i hri
            exfalso
            have : r' = r := by
              rcases List.mem_append.1 hr' with h | h
              · have := e3 r' h; omega
              · rcases List.mem_cons.1 h with rfl | h
                · rfl
                · have := e4 r' h; omega
            subst this
            exact hd hl
          · rfl
        | some x =>
          simp only
          rw [lookB_app]
          simp only [lookB, hl, e1, hD', if_true]
          rw [lookB_none]
          intro r' hr' hDr
          rw [if_neg (by have := e4 r' hr'; omega)] at hDr
          rcases hT2 r' hr' with h | h
          · rw [h] at hDr; cases hDr
          · exact (h.2.1 b (by rw [hl]; simp)).2
      have hF' : ∀ t, look s'.fr t = lookF (fun k => (listed.setIfInBounds i true).getD k false) (T1 ++ r :: T2) t (look st.fr t) := by
        intro t
        rw [k2, hf]
        split
        · rename_i hd
          rw [lookF_app]
          simp only [lookF, e1, hD', if_true, e2, hd]
          rw [lookF_none]
          intro r' hr' hDr hd'
          have hlt := e4 r' hr'
          rcases (hpair r (by simp) r' (by simp [hr']) (by rw [e1]; exact hlt)).1 with h | h
          · rw [e2, hd] at h; cases h
          · rw [e2, hd, hd'] at h; exact h rfl
        · rename_i hd
          refine lookF_eq (fun r' hr' hd' => ?_)
          simp only [hD']
          split
          · rename_i hri
            exfalso
            have : r' = r := by
              rcases List.mem_append.1 hr' with h | h
              · have := e3 r' h; omega
              · rcases List.mem_cons.1 h with rfl | h
                · rfl
                · have := e4 r' h; omega
            subst this
            rw [e2] at hd'
            exact hd hd'
          · rfl
      unfold wpOp
      simp only [hio]
      subst hw
      rcases hstep with ⟨s1, s2, s3, s4⟩ | ⟨s1, s2, s3⟩
      · rw [e2, ← hwt] at s1
        rw [if_neg (by rw [wanted_ok hs.fr s1]; decide)]
        rw [s2, s3] at hs'
        exact ih _ _ _ (by simpa using hsz) hcl' hDp' hcnt' ⟨c, s', rfl, hs.skip hs', hB', hF', k3.trans hdf⟩
      · rw [e2, ← hwt] at s1
        rw [if_pos (wanted_ok hs.fr s1)]
        left
        have hop : aOp P cfg callF sD o = some (.val r.v r.ds) := by
          rw [e2] at s2
          refine frame hev (fun b hb => agB b ?_) s2
          rw [s3, e2]; exact hb
        exact op_ok hF hs.wr hs.S hs.fr hop _ _ (fun u c1 q1 q2 q3 q4 => ih _ _ _ (by simpa using hsz) hcl' hDp' hcnt' ⟨c1, s', rfl, hs.put hs' q1 q2 q3 q4, hB', hF', k3.trans hdf⟩)


end
end Go.Ab
