/- A part of the proof: an evaluator of code on values and its soundness. -/
import Derived.Test.YtlomiepgghlhbaaAbFrame
import Derived.Orders
import Derived.ProofKit
set_option linter.unusedVariables false
set_option linter.unusedSimpArgs false
/- Regions whose order is drawn. -/
namespace Go.Ab
open Go

def pairOk (dyn : List (Nat × Nat)) (ops : Array Oper) (i j : Nat) (x y : Oper) : Bool :=
  x.apart ops y && (((!effOp x.op || valueOp y.op) && (!effOp y.op || valueOp x.op)) || dyn.contains (i, j))

def regOk (dyn : List (Nat × Nat)) (ops : Array Oper) : Bool :=
  let A := ancAll [] ops.toList
  (List.range ops.size).all fun j => match ops[j]? with
    | some y => (y.after.toList.all fun e => !Region.binds .any e || decide (e.on < j)) &&
      (List.range j).all fun i => match ops[i]? with
        | some x => (x.dst == none || x.dst != y.dst) && ((A.getD j []).contains i || pairOk dyn ops i j x y)
        | none => true
    | none => true

section
variable {P : Program} {w0 : World} {G X Lo : Nat → Prop}

theorem mem_addNew : ∀ {l acc : List Nat} {x : Nat}, x ∈ addNew acc l → x ∈ acc ∨ x ∈ l
  | [], _, _, h => .inl h
  | y :: r, acc, x, h => by
    simp only [addNew] at h
    split at h
    · rcases mem_addNew h with h | h
      · exact .inl h
      · exact .inr (by simp [h])
    · rcases mem_addNew h with h | h
      · rcases List.mem_append.1 h with h | h
        · exact .inl h
        · simp at h; exact .inr (by simp [h])
      · exact .inr (by simp [h])

/-- Down-closed. -/
def Closed (ops : Array Oper) (D : Nat → Prop) : Prop := ∀ (j : Nat) o, ops[j]? = some o → D j → ∀ e ∈ o.after.toList, Region.binds .any e = true → D e.on

theorem anc1_sub {D : Nat → Prop} {acc : List (List Nat)} (hacc : ∀ k, D k → ∀ x ∈ acc.getD k [], D x) : ∀ (l : List Edge) (cur : List Nat), (∀ e ∈ l, Region.binds .any e = true → D e.on) → (∀ x ∈ cur, D x) →
    ∀ x ∈ l.foldl (fun cur e => if Region.binds .any e then addNew cur (e.on :: acc.getD e.on []) else cur) cur, D x
  | [], cur, _, hc => hc
  | e :: l, cur, hl, hc => by
    simp only [List.foldl_cons]
    refine anc1_sub hacc l _ (fun e' he' => hl e' (by simp [he'])) ?_
    split
    · rename_i hb
      intro x hx
      have hD := hl e (by simp) hb
      rcases mem_addNew hx with h | h
      · exact hc x h
      · rcases List.mem_cons.1 h with rfl | h
        · exact hD
        · exact hacc _ hD x h
    · exact hc

theorem ancAll_sub {ops : Array Oper} {D : Nat → Prop} (hD : Closed ops D) : ∀ (rest : List Oper) (acc : List (List Nat)), (∀ j, rest[j]? = ops[acc.length + j]?) → (∀ k, D k → ∀ x ∈ acc.getD k [], D x) →
    ∀ k, D k → ∀ x ∈ (ancAll acc rest).getD k [], D x
  | [], acc, _, h => h
  | o :: rest, acc, hl, h => by
    simp only [ancAll]
    refine ancAll_sub hD rest _ (fun j => by have := hl (j + 1); simpa [Nat.add_assoc, Nat.add_comm 1 j] using this) ?_
    intro k hk x hx
    rcases Nat.lt_trichotomy k acc.length with hlt | heq | hgt
    · have e : (acc ++ [anc1 acc o.after.toList]).getD k [] = acc.getD k [] := by simp [List.getD, List.getElem?_append_left hlt]
      rw [e] at hx
      exact h k hk x hx
    · subst heq
      have e : (acc ++ [anc1 acc o.after.toList]).getD acc.length [] = anc1 acc o.after.toList := by simp [List.getD]
      rw [e] at hx
      have ho : ops[acc.length]? = some o := by simpa using (hl 0).symm
      exact anc1_sub h _ _ (hD _ o ho hk) (fun x hx => by simp at hx) x hx
    · have e : (acc ++ [anc1 acc o.after.toList]).getD k [] = [] := by
        simp [List.getD, List.getElem?_eq_none (show (acc ++ [anc1 acc o.after.toList]).length ≤ k by simp; omega)]
      rw [e] at hx; simp at hx

/-- The ancestors of what is ready. -/
theorem ancAll_ready {ops : Array Oper} {D : Nat → Prop} (hD : Closed ops D) {i : Nat} {o : Oper} (hi : ops[i]? = some o) (hd : ∀ e ∈ o.after.toList, Region.binds .any e = true → D e.on) (hlt : ∀ e ∈ o.after.toList, Region.binds .any e = true → e.on < i) :
    ∀ x ∈ (ancAll [] ops.toList).getD i [], x ≠ i → D x := by
  have hD' : Closed ops (fun k => D k ∨ k = i) := by
    intro j o' ho' hj e he hb
    rcases hj with hj | rfl
    · exact .inl (hD j o' ho' hj e he hb)
    · have : o' = o := Option.some.inj (ho'.symm.trans hi)
      subst this
      exact .inl (hd e he hb)
  intro x hx hne
  rcases ancAll_sub hD' ops.toList [] (fun j => by simp) (fun k _ x hx => by simp at hx) i (.inr rfl) x hx with h | h
  · exact h
  · exact absurd h hne

/-- What was done, in the text's order. -/
structure Rec where
  i : Nat
  o : Oper
  st : St
  v : AV
  ds : List (Nat × Blk)
  rd : List Nat

def StepR (P : Program) (cfg : Cfg) (callF : CallF) (ops : Array Oper) (r : Rec) : Prop :=
  (aWanted ops r.st r.o = some false ∧ r.v = .skp ∧ r.ds = [] ∧ r.rd = []) ∨ (aWanted ops r.st r.o = some true ∧ aOp P cfg callF r.st r.o = some (.val r.v r.ds) ∧ r.rd = readsK cfg r.st r.o)

def Runs (P : Program) (cfg : Cfg) (callF : CallF) (n : Nat) (ops : Array Oper) : Nat → List Oper → St → List Rec → St → Prop
  | _, [], st, T, st' => T = [] ∧ st' = st
  | i, o :: rest, st, T, st' => ∃ r st1 T', r.i = i ∧ r.o = o ∧ r.st = st ∧ StepR P cfg callF ops r ∧ st.put n o.dst r.v r.ds = some st1 ∧ T = r :: T' ∧ Runs P cfg callF n ops (i + 1) rest st1 T' st'

theorem aOps_df {cfg : Cfg} {callF : CallF} {n : Nat} {ops : Array Oper} {trk : Bool} {e : Ex} {st' : St} {t' : Trk} : ∀ {rest : List Oper} {i : Nat} {st : St} {t : Trk}, aOps P cfg callF n ops trk i rest st t = some (e, st', t') → st.df.length ≤ st'.df.length
  | [], i, st, t, h => by
    simp only [aOps, Option.some.injEq, Prod.mk.injEq] at h
    obtain ⟨_, rfl, _⟩ := h
    exact Nat.le_refl _
  | o :: rest, i, st, t, h => by
    simp only [aOps] at h
    split at h
    · cases h
    · split at h
      · rename_i st1 hp
        rw [← (put_some hp).2.1]; exact aOps_df h
      · cases h
    · split at h
      · cases h
      · split at h
        · rename_i st1 hp
          rw [← (put_some hp).2.1]; exact aOps_df h
        · cases h
      · split at h
        · rename_i st1 hp
          have := aOps_df h
          rw [← (put_some hp).2.1]
          simp only [List.length_cons] at this
          omega
        · cases h
      · simp only [Option.some.injEq, Prod.mk.injEq] at h
        obtain ⟨_, rfl, _⟩ := h
        exact Nat.le_refl _

theorem runs_of {cfg : Cfg} {callF : CallF} {n : Nat} {ops : Array Oper} {trk : Bool} : ∀ (rest : List Oper) (i : Nat) (st st' : St) (t t' : Trk), aOps P cfg callF n ops trk i rest st t = some (.norm, st', t') → st'.df.length = st.df.length →
    (∀ k, i ≤ k → look t k = none) → ∃ T, Runs P cfg callF n ops i rest st T st' ∧ (∀ k, k < i → look t' k = look t k) ∧ (trk = true → ∀ r ∈ T, trkAt t' r.i = (r.rd, keysOf r.ds))
  | [], i, st, st', t, t', h, _, _ => by
    simp only [aOps, Option.some.injEq, Prod.mk.injEq] at h
    obtain ⟨_, rfl, rfl⟩ := h
    exact ⟨[], ⟨rfl, rfl⟩, fun _ _ => rfl, fun _ _ h => by simp at h⟩
  | o :: rest, i, st, st', t, t', h, hnd, ht => by
    simp only [aOps] at h
    split at h
    · cases h
    · rename_i hw
      split at h
      · rename_i st1 hp
        obtain ⟨T, h1, h2, h3⟩ := runs_of rest (i + 1) st1 st' t t' h (by rw [(put_some hp).2.1]; exact hnd) (fun k hk => ht k (by omega))
        refine ⟨⟨i, o, st, .skp, [], []⟩ :: T, ⟨_, st1, T, rfl, rfl, rfl, .inl ⟨hw, rfl, rfl, rfl⟩, hp, rfl, h1⟩, fun k hk => h2 k (by omega), fun htr r hr => ?_⟩
        rcases List.mem_cons.1 hr with rfl | hr
        · show trkAt t' i = _
          unfold trkAt
          rw [h2 i (by omega), ht i (Nat.le_refl _)]; rfl
        · exact h3 htr r hr
      · cases h
    · rename_i hw
      split at h
      · cases h
      · rename_i v ds hop
        split at h
        · rename_i st1 hp
          generalize ht1 : (if trk then (i, readsK cfg st o, keysOf ds) :: t else t) = t1 at h
          have hk1 : ∀ k, i + 1 ≤ k → look t1 k = none := by
            intro k hk
            rw [← ht1]
            split
            · rw [look_cons, if_neg (by omega)]; exact ht k (by omega)
            · exact ht k (by omega)
          obtain ⟨T, h1, h2, h3⟩ := runs_of rest (i + 1) st1 st' t1 t' h (by rw [(put_some hp).2.1]; exact hnd) hk1
          refine ⟨⟨i, o, st, v, ds, readsK cfg st o⟩ :: T, ⟨_, st1, T, rfl, rfl, rfl, .inr ⟨hw, hop, rfl⟩, hp, rfl, h1⟩, fun k hk => ?_, fun htr r hr => ?_⟩
          · rw [h2 k (by omega), ← ht1]
            split
            · rw [look_cons, if_neg (by omega)]
            · rfl
          · rcases List.mem_cons.1 hr with rfl | hr
            · show trkAt t' i = _
              unfold trkAt
              rw [h2 i (by omega), ← ht1, if_pos htr, look_cons, if_pos rfl]; rfl
            · exact h3 htr r hr
        · cases h
      · split at h
        · rename_i st1 hp
          exfalso
          have := aOps_df h
          have e := (put_some hp).2.1
          simp only [List.length_cons] at this
          rw [e] at this
          omega
        · cases h
      · cases h

def lookB (D : Nat → Bool) : List Rec → Nat → Option Blk → Option Blk
  | [], _, base => base
  | r :: T, b, base => lookB D T b (if D r.i then (match look r.ds b with | some x => some x | none => base) else base)

def lookF (D : Nat → Bool) : List Rec → Nat → Option AV → Option AV
  | [], _, base => base
  | r :: T, t, base => lookF D T t (if D r.i then (if r.o.dst = some t then some r.v else base) else base)

theorem lookB_app (D : Nat → Bool) : ∀ (T1 T2 : List Rec) (b : Nat) (base : Option Blk), lookB D (T1 ++ T2) b base = lookB D T2 b (lookB D T1 b base)
  | [], _, _, _ => rfl
  | r :: T1, T2, b, base => lookB_app D T1 T2 b _
theorem lookF_app (D : Nat → Bool) : ∀ (T1 T2 : List Rec) (b : Nat) (base : Option AV), lookF D (T1 ++ T2) b base = lookF D T2 b (lookF D T1 b base)
  | [], _, _, _ => rfl
  | r :: T1, T2, b, base => lookF_app D T1 T2 b _

theorem lookB_eq {D D' : Nat → Bool} {b : Nat} : ∀ {T : List Rec} {base : Option Blk}, (∀ r ∈ T, look r.ds b ≠ none → D r.i = D' r.i) → lookB D T b base = lookB D' T b base
  | [], _, _ => rfl
  | r :: T, base, h => by
    simp only [lookB]
    have : (if D r.i then (match look r.ds b with | some x => some x | none => base) else base) = (if D' r.i then (match look r.ds b with | some x => some x | none => base) else base) := by
      cases hl : look r.ds b with
      | none => simp
      | some x => rw [h r (by simp) (by rw [hl]; simp)]
    rw [this]
    exact lookB_eq (fun r hr => h r (by simp [hr]))
theorem lookF_eq {D D' : Nat → Bool} {t : Nat} : ∀ {T : List Rec} {base : Option AV}, (∀ r ∈ T, r.o.dst = some t → D r.i = D' r.i) → lookF D T t base = lookF D' T t base
  | [], _, _ => rfl
  | r :: T, base, h => by
    simp only [lookF]
    have : (if D r.i then (if r.o.dst = some t then some r.v else base) else base) = (if D' r.i then (if r.o.dst = some t then some r.v else base) else base) := by
      by_cases hl : r.o.dst = some t
      · rw [h r (by simp) hl]
      · simp [hl]
    rw [this]
    exact lookF_eq (fun r hr => h r (by simp [hr]))

theorem lookB_none {D : Nat → Bool} {b : Nat} : ∀ {T : List Rec} {base : Option Blk}, (∀ r ∈ T, D r.i = true → look r.ds b = none) → lookB D T b base = base
  | [], _, _ => rfl
  | r :: T, base, h => by
    simp only [lookB]
    have : (if D r.i then (match look r.ds b with | some x => some x | none => base) else base) = base := by
      split
      · rename_i hd; rw [h r (by simp) hd]
      · rfl
    rw [this]
    exact lookB_none (fun r hr => h r (by simp [hr]))
theorem lookF_none {D : Nat → Bool} {t : Nat} : ∀ {T : List Rec} {base : Option AV}, (∀ r ∈ T, D r.i = true → r.o.dst ≠ some t) → lookF D T t base = base
  | [], _, _ => rfl
  | r :: T, base, h => by
    simp only [lookF]
    have : (if D r.i then (if r.o.dst = some t then some r.v else base) else base) = base := by
      split
      · rename_i hd; rw [if_neg (h r (by simp) hd)]
      · rfl
    rw [this]
    exact lookF_none (fun r hr => h r (by simp [hr]))

theorem put_look {n : Nat} {st st1 : St} {d : Option Tmp} {v : AV} {ds : List (Nat × Blk)} (h : st.put n d v ds = some st1) :
    (∀ b, look st1.bs b = match look ds b with | some x => some x | none => look st.bs b) ∧ (∀ t, look st1.fr t = if d = some t then some v else look st.fr t) ∧ st1.df = st.df := by
  obtain ⟨h1, h2, h3⟩ := put_some h
  refine ⟨fun b => by rw [h1, look_app]; cases look ds b <;> rfl, fun t => ?_, h2⟩
  rcases h3 with ⟨rfl, e⟩ | ⟨t', rfl, _, e⟩
  · rw [e]; simp
  · rw [e, look_cons]; simp

theorem Runs.look {cfg : Cfg} {callF : CallF} {n : Nat} {ops : Array Oper} : ∀ {rest : List Oper} {i : Nat} {st st' : St} {T : List Rec}, Runs P cfg callF n ops i rest st T st' →
    (∀ b, look st'.bs b = lookB (fun _ => true) T b (look st.bs b)) ∧ (∀ t, look st'.fr t = lookF (fun _ => true) T t (look st.fr t)) ∧ st'.df = st.df
  | [], i, st, st', T, h => by obtain ⟨rfl, rfl⟩ := h; exact ⟨fun _ => rfl, fun _ => rfl, rfl⟩
  | o :: rest, i, st, st', T, h => by
    obtain ⟨r, st1, T', e1, e2, e3, h1, h2, rfl, h3⟩ := h
    obtain ⟨g1, g2, g3⟩ := Runs.look h3
    obtain ⟨k1, k2, k3⟩ := put_look h2
    refine ⟨fun b => ?_, fun t => ?_, g3.trans k3⟩
    · rw [g1, k1]; rfl
    · rw [g2, k2, ← e2]; rfl

/-- One of them. -/
theorem Runs.at {cfg : Cfg} {callF : CallF} {n : Nat} {ops : Array Oper} : ∀ {rest : List Oper} {i : Nat} {st st' : St} {T : List Rec}, Runs P cfg callF n ops i rest st T st' → (∀ j, rest[j]? = ops[i + j]?) →
    (∀ r ∈ T, i ≤ r.i ∧ ops[r.i]? = some r.o ∧ StepR P cfg callF ops r ∧ ∃ st1, r.st.put n r.o.dst r.v r.ds = some st1) ∧
    ∀ (k : Nat) o, i ≤ k → ops[k]? = some o → ∃ T1 r T2, T = T1 ++ r :: T2 ∧ r.i = k ∧ r.o = o ∧ (∀ r' ∈ T1, r'.i < k) ∧ (∀ r' ∈ T2, k < r'.i) ∧
      (∀ b, Ab.look r.st.bs b = lookB (fun _ => true) T1 b (Ab.look st.bs b)) ∧ (∀ t, Ab.look r.st.fr t = lookF (fun _ => true) T1 t (Ab.look st.fr t)) ∧ r.st.df = st.df
  | [], i, st, st', T, h, hl => by
    obtain ⟨rfl, rfl⟩ := h
    refine ⟨fun r hr => by simp at hr, fun k o hk ho => ?_⟩
    have := hl (k - i)
    rw [show i + (k - i) = k by omega, ho] at this
    simp at this
  | o :: rest, i, st, st', T, h, hl => by
    obtain ⟨r, st1, T', e1, e2, e3, h1, h2, rfl, h3⟩ := h
    have hl' : ∀ j, rest[j]? = ops[i + 1 + j]? := fun j => by have := hl (j + 1); simpa [Nat.add_assoc, Nat.add_comm 1 j] using this
    have h0 : ops[i]? = some o := by simpa using (hl 0).symm
    obtain ⟨g1, g2⟩ := Runs.at h3 hl'
    obtain ⟨k1, k2, k3⟩ := put_look h2
    refine ⟨fun r' hr' => ?_, fun k o' hk ho' => ?_⟩
    · rcases List.mem_cons.1 hr' with rfl | hr'
      · exact ⟨by omega, by rw [e1, e2]; exact h0, h1, st1, by rw [e3, e2]; exact h2⟩
      · obtain ⟨a1, a2, a3, a4⟩ := g1 r' hr'
        exact ⟨by omega, a2, a3, a4⟩
    · by_cases he : k = i
      · subst he
        have : o' = o := Option.some.inj (ho'.symm.trans h0)
        subst this
        refine ⟨[], r, T', rfl, e1, e2, fun r' hr' => by simp at hr', fun r' hr' => by have := (g1 r' hr').1; omega, fun b => by rw [e3]; rfl, fun t => by rw [e3]; rfl, by rw [e3]⟩
      · obtain ⟨T1, r', T2, rfl, q1, q2, q3, q4, q5, q6, q7⟩ := g2 k o' (by omega) ho'
        refine ⟨r :: T1, r', T2, rfl, q1, q2, fun x hx => ?_, q4, fun b => ?_, fun t => ?_, q7.trans k3⟩
        · rcases List.mem_cons.1 hx with rfl | hx
          · omega
          · exact q3 x hx
        · rw [q5, k1]; rfl
        · rw [q6, k2, ← e2]; rfl

end
end Go.Ab
/- Regions whose order is drawn: any order will do. -/
namespace Go.Ab
open Go

section
variable {P : Program} {w0 : World} {G X Lo : Nat → Prop}

theorem Sim.sub {n : Nat} {c0 c : Cx} {st st' : St} {a : Act} (h : Sim w0 G X Lo n c0 c st a) (hb : ∀ b, look st'.bs b = look st.bs b) (hf : ∀ t v, look st'.fr t = some v → look st.fr t = some v) (hd : st'.df = st.df) :
    ∃ c', c'.w = c.w ∧ Sim w0 G X Lo n c0 c' st' a := by
  let c' : Cx := { c with S := st'.bs }
  have hl : ∀ b, look c'.S b = look c.S b := fun b => by show look st'.bs b = _; rw [hb, h.S]
  have L : Le c c' := ⟨Nat.le_refl _, fun _ _ hf => hf, fun _ _ _ => rfl, fun b x hx => ⟨x, by rw [hl]; exact hx, Nat.le_refl _, fun _ _ => ⟨rfl, rfl, rfl, fun _ => rfl, id, fun cells t fr hc => ⟨cells, t, fr, hc, rfl⟩⟩⟩⟩
  refine ⟨c', rfl, rfl, ?_, h.le.trans L, ?_, ?_⟩
  · refine ⟨h.wr.size, h.wr.kept, h.wr.os, h.wr.out, h.wr.xs, fun b x hx hd => h.wr.own b x (by rw [← hl]; exact hx) hd, fun b x hx hd => h.wr.low b x (by rw [← hl]; exact hx) hd,
      fun b b' x x' hx hd hx' hd' e => h.wr.inj b b' x x' (by rw [← hl]; exact hx) hd (by rw [← hl]; exact hx') hd' e, fun b x hx hd => ?_, fun i => ?_⟩
    · obtain ⟨cells, t, lo, hi, g1, g2, g3, g4⟩ := (h.wr.blk b x (by rw [← hl]; exact hx) hd).here
      exact ⟨cells, t, lo, hi, g1, g2, fun k => (g3 k).mono L, fun k => ⟨(g4 k).1, (g4 k).2.mono L⟩⟩
    · rw [show c'.F i ↔ c.F i from Iff.rfl, h.wr.hF]
      constructor
      · rintro (hx | ⟨b, x, g⟩)
        · exact .inl hx
        · exact .inr ⟨b, x, by rw [hl]; exact g.1, g.2⟩
      · rintro (hx | ⟨b, x, g⟩)
        · exact .inl hx
        · exact .inr ⟨b, x, by rw [← hl]; exact g.1, g.2⟩
  · exact ⟨h.fr.size, fun t v ht => h.fr.lt t v (hf t v ht), fun t v ht => (h.fr.rel t v (hf t v ht)).mono L⟩
  · rw [hd]; exact h.df.mono L

theorem Sim.congr {n : Nat} {c0 c : Cx} {st st' : St} {a : Act} (h : Sim w0 G X Lo n c0 c st a) (hb : ∀ b, look st'.bs b = look st.bs b) (hf : ∀ t, look st'.fr t = look st.fr t) (hd : st'.df = st.df) :
    ∃ c', c'.w = c.w ∧ Sim w0 G X Lo n c0 c' st' a := h.sub hb (fun t v ht => by rw [← hf]; exact ht) hd

def cnt (D : Nat → Bool) : Nat → Nat
  | 0 => 0
  | n + 1 => cnt D n + (if D n then 0 else 1)

theorem cnt_zero {D : Nat → Bool} : ∀ {n : Nat}, cnt D n = 0 → ∀ k, k < n → D k = true
  | 0, _, k, hk => absurd hk (by omega)
  | n + 1, h, k, hk => by
    simp only [cnt] at h
    have h1 : cnt D n = 0 := by omega
    by_cases e : k = n
    · subst e
      cases hD : D k with
      | true => rfl
      | false => rw [hD] at h; simp at h
    · exact cnt_zero h1 k (by omega)

theorem cnt_same {D D' : Nat → Bool} : ∀ {n : Nat}, (∀ k, k < n → D' k = D k) → cnt D' n = cnt D n
  | 0, _ => rfl
  | n + 1, h => by simp only [cnt]; rw [cnt_same (fun k hk => h k (by omega)), h n (by omega)]

theorem cnt_set {D D' : Nat → Bool} {i : Nat} (hi : D i = false) (hi' : D' i = true) (h : ∀ k, k ≠ i → D' k = D k) : ∀ {n : Nat}, i < n → cnt D' n + 1 = cnt D n
  | 0, hn => absurd hn (by omega)
  | n + 1, hn => by
    simp only [cnt]
    by_cases e : i = n
    · subst e
      rw [cnt_same (fun k hk => h k (by omega)), hi, hi']
      simp
    · have := cnt_set hi hi' h (n := n) (by omega)
      rw [h n (fun h => e h.symm)]
      omega

/-- Two operations that may stand in any order. -/
def Indep (ops : Array Oper) (r r' : Rec) : Prop :=
  r.o.apart ops r'.o = true ∧ (∀ b, look r.ds b ≠ none → b ∉ r'.rd ∧ look r'.ds b = none) ∧ ∀ b, look r'.ds b ≠ none → b ∉ r.rd ∧ look r.ds b = none

theorem any_ok {cfg : Cfg} {callF : CallF} (hF : FnOk P callF) {n : Nat} {ops : Array Oper} {c0 : Cx} {st st' : St} {T : List Rec} (hT : Runs P cfg callF n ops 0 ops.toList st T st')
    (hpair : ∀ r ∈ T, ∀ r' ∈ T, r.i < r'.i → (r.o.dst = none ∨ r.o.dst ≠ r'.o.dst) ∧ (r.i ∈ (ancAll [] ops.toList).getD r'.i [] ∨ Indep ops r r'))
    (hback : ∀ (j : Nat) o, ops[j]? = some o → ∀ e ∈ o.after.toList, Region.binds .any e = true → e.on < j) :
    ∀ (fuel : Nat) (listed : Array Bool) (a : Act) (w : World), listed.size = ops.size → Closed ops (fun k => listed.getD k false = true) → cnt (fun k => listed.getD k false) ops.size ≤ fuel →
      (∃ c sD, c.w = w ∧ Sim w0 G X Lo n c0 c sD a ∧ (∀ b, look sD.bs b = lookB (fun k => listed.getD k false) T b (look st.bs b)) ∧ (∀ t, look sD.fr t = lookF (fun k => listed.getD k false) T t (look st.fr t)) ∧ sD.df = st.df) →
      wpAny P .any ops (Post w0 G X Lo n c0 .norm st') fuel listed a w := by
  obtain ⟨hR1, hR2⟩ := Runs.at hT (fun j => by simp)
  have hLk := Runs.look hT
  have fin : ∀ (listed : Array Bool) (a : Act) (w : World), (∀ k, k < ops.size → listed.getD k false = true) →
      (∃ c sD, c.w = w ∧ Sim w0 G X Lo n c0 c sD a ∧ (∀ b, look sD.bs b = lookB (fun k => listed.getD k false) T b (look st.bs b)) ∧ (∀ t, look sD.fr t = lookF (fun k => listed.getD k false) T t (look st.fr t)) ∧ sD.df = st.df) →
      Post w0 G X Lo n c0 .norm st' .normal a w := by
    rintro listed a w hall ⟨c, sD, hw, hs, h1, h2, h3⟩
    have hin : ∀ r ∈ T, r.i < ops.size := fun r hr => (Array.getElem?_eq_some_iff.1 (hR1 r hr).2.1).1
    obtain ⟨c', g1, g2⟩ := hs.congr (st' := st')
      (fun b => by rw [hLk.1, h1]; exact lookB_eq (fun r hr _ => (hall r.i (hin r hr)).symm))
      (fun t => by rw [hLk.2.1, h2]; exact lookF_eq (fun r hr _ => (hall r.i (hin r hr)).symm))
      (by rw [hLk.2.2, h3])
    exact ⟨c', by rw [g1, hw], g2, rfl⟩
  intro fuel
  induction fuel with
  | zero =>
    intro listed a w hsz hcl hcnt hI
    have hall := cnt_zero (Nat.le_zero.1 hcnt)
    refine ⟨?_, fin listed a w hall hI⟩
    cases hr : Region.ready .any ops listed with
    | nil => rfl
    | cons j l =>
      have hj : j ∈ Region.ready .any ops listed := by rw [hr]; simp
      obtain ⟨g1, o, g2, _⟩ := mem_ready.1 hj
      have hlt := (Array.getElem?_eq_some_iff.1 g2).1
      have := hall j hlt
      simp [Array.getD, hsz, hlt] at this g1
      rw [this] at g1; cases g1
  | succ fuel ih =>
    intro listed a w hsz hcl hcnt hI
    refine ⟨fun hr => fin listed a w ?_ hI, fun i hi => ?_⟩
    · intro k
      induction k using Nat.strongRecOn with
      | _ k ihk =>
        intro hk
        cases hD : listed.getD k false with
        | true => rfl
        | false =>
          exfalso
          have : k ∈ Region.ready .any ops listed := by
            rw [mem_ready]
            refine ⟨by simpa [Array.getD, hsz, hk] using hD, ops[k], Array.getElem?_eq_getElem hk, fun e he hb => ?_⟩
            have := hback k _ (Array.getElem?_eq_getElem hk) e (by simpa using he) hb
            exact ihk e.on this (by omega)
          rw [hr] at this; simp at this
    · obtain ⟨g1, o, hio, hdep⟩ := mem_ready.1 hi
      have hilt := (Array.getElem?_eq_some_iff.1 hio).1
      have hDi : listed.getD i false = false := by simp [Array.getD, hsz, hilt] at g1 ⊢; exact g1
      obtain ⟨c, sD, hw, hs, hb, hf, hdf⟩ := hI
      obtain ⟨T1, r, T2, rfl, e1, e2, e3, e4, hb1, hf1, hdf1⟩ := hR2 i o (Nat.zero_le _) hio
      obtain ⟨_, _, hstep, st1, hput⟩ := hR1 r (by simp)
      have hdep' : ∀ e ∈ o.after.toList, Region.binds .any e = true → listed.getD e.on false = true := fun e he hb => hdep e (by simpa using he) hb
      have hanc := ancAll_ready hcl hio hdep' (fun e he hb => hback i o hio e he hb)
      -- those ahead of it
      have hT1 : ∀ r' ∈ T1, listed.getD r'.i false = true ∨ Indep ops r' r := by
        intro r' hr'
        have := (hpair r' (by simp [hr']) r (by simp) (by rw [e1]; exact e3 r' hr')).2
        rw [e1] at this
        rcases this with h | h
        · exact .inl (hanc _ h (by have := e3 r' hr'; omega))
        · exact .inr h
      have hT2 : ∀ r' ∈ T2, listed.getD r'.i false = false ∨ Indep ops r r' := by
        intro r' hr'
        have hlt := e4 r' hr'
        have := (hpair r (by simp) r' (by simp [hr']) (by rw [e1]; exact hlt)).2
        rcases this with h | h
        · left
          cases hD : listed.getD r'.i false with
          | false => rfl
          | true =>
            exfalso
            have hi' : r.i ∈ (ancAll [] ops.toList).getD r'.i [] := h
            have := ancAll_sub hcl ops.toList [] (fun j => by simp) (fun k _ x hx => by simp at hx) r'.i hD r.i hi'
            rw [e1, hDi] at this; cases this
        · exact .inr h
      have agF : ∀ t ∈ o.looksAt ops, look sD.fr t = look r.st.fr t := by
        intro t ht
        rw [hf, hf1, lookF_app, lookF_none (T := r :: T2)]
        · refine lookF_eq (fun r' hr' hd => ?_)
          rcases hT1 r' hr' with h | h
          · exact h
          · exfalso
            exact (Oper.apart_spec h.1).1 t hd (by rw [e2]; exact ht)
        · intro r' hr' hD hd
          rcases List.mem_cons.1 hr' with rfl | hr'
          · rw [e1, hDi] at hD; cases hD
          · rcases hT2 r' hr' with h | h
            · rw [h] at hD; cases hD
            · exact (Oper.apart_spec h.1).2.2 t hd (by rw [e2]; exact ht)
      have agB : ∀ b ∈ r.rd, look sD.bs b = look r.st.bs b := by
        intro b hbr
        rw [hb, hb1, lookB_app, lookB_none (T := r :: T2)]
        · refine lookB_eq (fun r' hr' hd => ?_)
          rcases hT1 r' hr' with h | h
          · exact h
          · exact absurd hbr (h.2.1 b hd).1
        · intro r' hr' hD
          rcases List.mem_cons.1 hr' with rfl | hr'
          · rw [e1, hDi] at hD; cases hD
          · rcases hT2 r' hr' with h | h
            · rw [h] at hD; cases hD
            · cases hl : look r'.ds b with
              | none => rfl
              | some x => exact absurd hbr (h.2.2 b (by rw [hl]; simp)).1
      have hev : ∀ x ∈ o.op.operands, sD.ev x = r.st.ev x := by
        intro x hx
        cases x with
        | tmp t =>
          show (look sD.fr t).getD .undef = (look r.st.fr t).getD .undef
          rw [agF t (List.mem_append_left _ (List.mem_filterMap.2 ⟨.tmp t, by simpa using hx, rfl⟩))]
        | _ => rfl
      have hwt : aWanted ops sD o = aWanted ops r.st o := by
        unfold aWanted
        cases hg : o.guard with
        | none => rfl
        | some gw =>
          obtain ⟨j, want⟩ := gw
          simp only
          cases hj : ops[j]? with
          | none => rfl
          | some g =>
            simp only
            cases hd : g.dst with
            | none => rfl
            | some d =>
              simp only
              rw [agF d (by simp [Oper.looksAt, hg, hj, hd])]
      -- the next state
      have hD' : ∀ k, (listed.setIfInBounds i true).getD k false = if k = i then true else listed.getD k false := by
        intro k
        by_cases e : k = i
        · subst e; simp [hsz, hilt]
        · rw [if_neg e, getD_set_ne false (fun h => e h.symm)]
      have hcl' : Closed ops (fun k => (listed.setIfInBounds i true).getD k false = true) := by
        intro j oj hj hDj e he hb'
        simp only [hD'] at hDj ⊢
        split
        · rfl
        · by_cases ej : j = i
          · subst ej
            have : oj = o := Option.some.inj (hj.symm.trans hio)
            subst this
            exact hdep' e he hb'
          · rw [if_neg ej] at hDj
            exact hcl j oj hj hDj e he hb'
      have hcnt' : cnt (fun k => (listed.setIfInBounds i true).getD k false) ops.size ≤ fuel := by
        have := cnt_set (D := fun k => listed.getD k false) (D' := fun k => (listed.setIfInBounds i true).getD k false) hDi (by simp only [hD']; simp) (fun k hk => by simp only [hD']; rw [if_neg hk]) hilt
        omega
      have hputs : ∃ s', sD.put n o.dst r.v r.ds = some s' := by
        rw [e2] at hput
        unfold St.put at hput ⊢
        split at hput
        · split at hput
          · rename_i hlt; exact ⟨_, by rw [if_pos hlt]⟩
          · cases hput
        · exact ⟨_, rfl⟩
      obtain ⟨s', hs'⟩ := hputs
      obtain ⟨k1, k2, k3⟩ := put_look hs'
      have hB' : ∀ b, look s'.bs b = lookB (fun k => (listed.setIfInBounds i true).getD k false) (T1 ++ r :: T2) b (look st.bs b) := by
        intro b
        rw [k1, hb]
        cases hl : look r.ds b with
        | none =>
          refine lookB_eq (fun r' hr' hd => ?_)
          simp only [hD']
          split
          · rename_i hri
            exfalso
            have : r' = r := by
              rcases List.mem_append.1 hr' with h | h
              · have := e3 r' h; omega
              · rcases List.mem_cons.1 h with rfl | h
                · rfl
                · have := e4 r' h; omega
            subst this
            exact hd hl
          · rfl
        | some x =>
          simp only
          rw [lookB_app]
          simp only [lookB, hl, e1, hD', if_true]
          rw [lookB_none]
          intro r' hr' hDr
          rw [if_neg (by have := e4 r' hr'; omega)] at hDr
          rcases hT2 r' hr' with h | h
          · rw [h] at hDr; cases hDr
          · exact (h.2.1 b (by rw [hl]; simp)).2
      have hF' : ∀ t, look s'.fr t = lookF (fun k => (listed.setIfInBounds i true).getD k false) (T1 ++ r :: T2) t (look st.fr t) := by
        intro t
        rw [k2, hf]
        split
        · rename_i hd
          rw [lookF_app]
          simp only [lookF, e1, hD', if_true, e2, hd]
          rw [lookF_none]
          intro r' hr' hDr hd'
          have hlt := e4 r' hr'
          rcases (hpair r (by simp) r' (by simp [hr']) (by rw [e1]; exact hlt)).1 with h | h
          · rw [e2, hd] at h; cases h
          · rw [e2, hd, hd'] at h; exact h rfl
        · rename_i hd
          refine lookF_eq (fun r' hr' hd' => ?_)
          simp only [hD']
          split
          · rename_i hri
            exfalso
            have : r' = r := by
              rcases List.mem_append.1 hr' with h | h
              · have := e3 r' h; omega
              · rcases List.mem_cons.1 h with rfl | h
                · rfl
                · have := e4 r' h; omega
            subst this
            rw [e2] at hd'
            exact hd hd'
          · rfl
      unfold wpOp
      simp only [hio]
      subst hw
      rcases hstep with ⟨s1, s2, s3, s4⟩ | ⟨s1, s2, s3⟩
      · rw [e2, ← hwt] at s1
        rw [if_neg (by rw [wanted_ok hs.fr s1]; decide)]
        rw [s2, s3] at hs'
        exact ih _ _ _ (by simpa using hsz) hcl' hcnt' ⟨c, s', rfl, hs.skip hs', hB', hF', k3.trans hdf⟩
      · rw [e2, ← hwt] at s1
        rw [if_pos (wanted_ok hs.fr s1)]
        left
        have hop : aOp P cfg callF sD o = some (.val r.v r.ds) := by
          rw [e2] at s2
          refine frame hev (fun b hb => agB b ?_) s2
          rw [s3, e2]; exact hb
        exact op_ok hF hs.wr hs.S hs.fr hop _ _ (fun u c1 q1 q2 q3 q4 => ih _ _ _ (by simpa using hsz) hcl' hcnt' ⟨c1, s', rfl, hs.put hs' q1 q2 q3 q4, hB', hF', k3.trans hdf⟩)

theorem runsP_of {cfg : Cfg} {callF : CallF} {n : Nat} {ops : Array Oper} : ∀ (rest : List Oper) (i : Nat) (st : St) (p : Nat) (stp : St), aOpsP P cfg callF n ops i rest st = some (p, stp) →
    i ≤ p ∧ p < i + rest.length ∧ ∃ T, Runs P cfg callF n ops i (rest.take (p - i)) st T stp
  | [], i, st, p, stp, h => by cases h
  | o :: rest, i, st, p, stp, h => by
    simp only [aOpsP] at h
    have next : ∀ (r : Rec) (st1 : St), r.i = i → r.o = o → r.st = st → StepR P cfg callF ops r → st.put n o.dst r.v r.ds = some st1 → aOpsP P cfg callF n ops (i + 1) rest st1 = some (p, stp) →
        i ≤ p ∧ p < i + (o :: rest).length ∧ ∃ T, Runs P cfg callF n ops i ((o :: rest).take (p - i)) st T stp := by
      intro r st1 e1 e2 e3 hs hput hh
      obtain ⟨g1, g2, T, g3⟩ := runsP_of rest (i + 1) st1 p stp hh
      refine ⟨by omega, by simp; omega, r :: T, ?_⟩
      rw [show p - i = (p - (i + 1)) + 1 by omega, List.take_succ_cons]
      exact ⟨r, st1, T, e1, e2, e3, hs, hput, rfl, g3⟩
    split at h
    · cases h
    · rename_i hw
      split at h
      · rename_i st1 hp
        exact next ⟨i, o, st, .skp, [], []⟩ st1 rfl rfl rfl (.inl ⟨hw, rfl, rfl, rfl⟩) hp h
      · cases h
    · rename_i hw
      split at h
      · rename_i v ds hop
        split at h
        · rename_i st1 hp
          exact next ⟨i, o, st, v, ds, readsK cfg st o⟩ st1 rfl rfl rfl (.inr ⟨hw, hop, rfl⟩) hp h
        · cases h
      · rename_i v ds hop
        cases h
        refine ⟨Nat.le_refl _, by simp, [], ?_⟩
        rw [Nat.sub_self, List.take_zero]
        exact ⟨rfl, rfl⟩
      · cases h

theorem RunsP.at {cfg : Cfg} {callF : CallF} {n : Nat} {ops : Array Oper} : ∀ {rest : List Oper} {i : Nat} {st st' : St} {T : List Rec}, Runs P cfg callF n ops i rest st T st' → (∀ j, j < rest.length → rest[j]? = ops[i + j]?) →
    (∀ r ∈ T, i ≤ r.i ∧ r.i < i + rest.length ∧ ops[r.i]? = some r.o ∧ StepR P cfg callF ops r ∧ ∃ st1, r.st.put n r.o.dst r.v r.ds = some st1) ∧
    ∀ (k : Nat) o, i ≤ k → k < i + rest.length → ops[k]? = some o → ∃ T1 r T2, T = T1 ++ r :: T2 ∧ r.i = k ∧ r.o = o ∧ (∀ r' ∈ T1, r'.i < k) ∧ (∀ r' ∈ T2, k < r'.i) ∧
      (∀ b, Ab.look r.st.bs b = lookB (fun _ => true) T1 b (Ab.look st.bs b)) ∧ (∀ t, Ab.look r.st.fr t = lookF (fun _ => true) T1 t (Ab.look st.fr t)) ∧ r.st.df = st.df
  | [], i, st, st', T, h, hl => by
    obtain ⟨rfl, rfl⟩ := h
    exact ⟨fun r hr => by simp at hr, fun k o hk hk2 ho => absurd hk2 (by simp; omega)⟩
  | o :: rest, i, st, st', T, h, hl => by
    obtain ⟨r, st1, T', e1, e2, e3, h1, h2, rfl, h3⟩ := h
    have hl' : ∀ j, j < rest.length → rest[j]? = ops[i + 1 + j]? := fun j hj => by have := hl (j + 1) (by simp; omega); simpa [Nat.add_assoc, Nat.add_comm 1 j] using this
    have h0 : ops[i]? = some o := by simpa using (hl 0 (by simp)).symm
    obtain ⟨g1, g2⟩ := RunsP.at h3 hl'
    obtain ⟨k1, k2, k3⟩ := put_look h2
    refine ⟨fun r' hr' => ?_, fun k o' hk hk2 ho' => ?_⟩
    · rcases List.mem_cons.1 hr' with rfl | hr'
      · exact ⟨by omega, by simp; omega, by rw [e1, e2]; exact h0, h1, st1, by rw [e3, e2]; exact h2⟩
      · obtain ⟨a1, a0, a2, a3, a4⟩ := g1 r' hr'
        exact ⟨by omega, by simp; omega, a2, a3, a4⟩
    · by_cases he : k = i
      · subst he
        have : o' = o := Option.some.inj (ho'.symm.trans h0)
        subst this
        refine ⟨[], r, T', rfl, e1, e2, fun r' hr' => by simp at hr', fun r' hr' => by have := (g1 r' hr').1; omega, fun b => by rw [e3]; rfl, fun t => by rw [e3]; rfl, by rw [e3]⟩
      · obtain ⟨T1, r', T2, rfl, q1, q2, q3, q4, q5, q6, q7⟩ := g2 k o' (by omega) (by simp at hk2; omega) ho'
        refine ⟨r :: T1, r', T2, rfl, q1, q2, fun x hx => ?_, q4, fun b => ?_, fun t => ?_, q7.trans k3⟩
        · rcases List.mem_cons.1 hx with rfl | hx
          · omega
          · exact q3 x hx
        · rw [q5, k1]; rfl
        · rw [q6, k2, ← e2]; rfl

theorem look_filter {fr : List (Nat × AV)} {q : Nat → Bool} {t : Nat} {v : AV} (h : look (fr.filter fun x => q x.1) t = some v) : q t = true ∧ look fr t = some v := by
  induction fr with
  | nil => cases h
  | cons x r ih =>
    obtain ⟨j, a⟩ := x
    by_cases hq : q j = true
    · rw [List.filter_cons_of_pos (by simpa using hq), look_cons] at h
      rw [look_cons]
      split at h
      · rename_i e; subst e; cases h; exact ⟨hq, by simp⟩
      · rename_i e; rw [if_neg e]; exact ih h
    · rw [List.filter_cons_of_neg (by simpa using hq)] at h
      obtain ⟨h1, h2⟩ := ih h
      refine ⟨h1, ?_⟩
      rw [look_cons]
      split
      · rename_i e; subst e; exact absurd h1 hq
      · exact h2

theorem any_pan {cfg : Cfg} {callF : CallF} (hF : FnOk P callF) {n : Nat} {ops : Array Oper} {c0 : Cx} {st stp stq : St} {T : List Rec} {p : Nat} {op : Oper} {v : AV} {ds : List (Nat × Blk)} (hop : ops[p]? = some op) (hT : Runs P cfg callF n ops 0 (ops.toList.take p) st T stp)
    (hpair : ∀ r ∈ T, ∀ r' ∈ T, r.i < r'.i → (r.o.dst = none ∨ r.o.dst ≠ r'.o.dst) ∧ (r.i ∈ (ancAll [] ops.toList).getD r'.i [] ∨ Indep ops r r'))
    (hback : ∀ (j : Nat) o, ops[j]? = some o → ∀ e ∈ o.after.toList, Region.binds .any e = true → e.on < j)
    (hbefore : ∀ r ∈ T, r.i ∈ (ancAll [] ops.toList).getD p [] ∨ r.ds = [])
    (hafter : ∀ j, p < j → j < ops.size → p ∈ (ancAll [] ops.toList).getD j [])
    (hq1 : stq.bs = stp.bs) (hq2 : ∀ t u, look stq.fr t = some u → look stp.fr t = some u ∧ ∀ r ∈ T, r.o.dst = some t → r.i ∈ (ancAll [] ops.toList).getD p []) (hq3 : stq.df = stp.df)
    (hwq : aWanted ops stq op = some true) (hpan : aOp P cfg callF stq op = some (.pan v ds)) :
    ∀ (fuel : Nat) (listed : Array Bool) (a : Act) (w : World), listed.size = ops.size → Closed ops (fun k => listed.getD k false = true) → listed.getD p false = false → cnt (fun k => listed.getD k false) ops.size ≤ fuel →
      (∃ c sD, c.w = w ∧ Sim w0 G X Lo n c0 c sD a ∧ (∀ b, look sD.bs b = lookB (fun k => listed.getD k false) T b (look st.bs b)) ∧ (∀ t, look sD.fr t = lookF (fun k => listed.getD k false) T t (look st.fr t)) ∧ sD.df = st.df) →
      wpAny P .any ops (Post w0 G X Lo n c0 (.pan v) { stq with bs := ds ++ stq.bs }) fuel listed a w := by
  have hplt : p < ops.size := (Array.getElem?_eq_some_iff.1 hop).1
  have hlen : (ops.toList.take p).length = p := by simp; omega
  obtain ⟨hR1, hR2⟩ := RunsP.at hT (fun j hj => by
    rw [hlen] at hj
    rw [List.getElem?_take, if_pos hj]; simp)
  rw [hlen] at hR1 hR2
  have hLk := Runs.look hT
  intro fuel
  induction fuel with
  | zero =>
    intro listed a w hsz hcl hDp hcnt hI
    exfalso
    have := cnt_zero (Nat.le_zero.1 hcnt) p hplt
    rw [hDp] at this; cases this
  | succ fuel ih =>
    intro listed a w hsz hcl hDp hcnt hI
    refine ⟨fun hr => ?_, fun i hi => ?_⟩
    · exfalso
      have hall : ∀ k, k < ops.size → listed.getD k false = true := by
        intro k
        induction k using Nat.strongRecOn with
        | _ k ihk =>
          intro hk
          cases hD : listed.getD k false with
          | true => rfl
          | false =>
            exfalso
            have : k ∈ Region.ready .any ops listed := by
              rw [mem_ready]
              refine ⟨by simpa [Array.getD, hsz, hk] using hD, ops[k], Array.getElem?_eq_getElem hk, fun e he hb => ?_⟩
              have := hback k _ (Array.getElem?_eq_getElem hk) e (by simpa using he) hb
              exact ihk e.on this (by omega)
            rw [hr] at this; simp at this
      have := hall p hplt
      rw [hDp] at this; cases this
    · obtain ⟨g1, o, hio, hdep⟩ := mem_ready.1 hi
      have hilt := (Array.getElem?_eq_some_iff.1 hio).1
      have hDi : listed.getD i false = false := by simp [Array.getD, hsz, hilt] at g1 ⊢; exact g1
      obtain ⟨c, sD, hw, hs, hb, hf, hdf⟩ := hI
      have hdep' : ∀ e ∈ o.after.toList, Region.binds .any e = true → listed.getD e.on false = true := fun e he hb => hdep e (by simpa using he) hb
      have hanc := ancAll_ready hcl hio hdep' (fun e he hb => hback i o hio e he hb)
      rcases Nat.lt_trichotomy i p with hip | hip | hip
      case inr.inr =>
        exfalso
        have := hanc _ (hafter i hip hilt) (by omega)
        rw [hDp] at this; cases this
      case inr.inl =>
        subst hip
        have : o = op := Option.some.inj (hio.symm.trans hop)
        subst this
        have hDr : ∀ r ∈ T, r.i ∈ (ancAll [] ops.toList).getD i [] → listed.getD r.i false = true := fun r hr h => hanc _ h (by have := (hR1 r hr).2.1; omega)
        obtain ⟨c', w1, hs'⟩ := hs.sub (st' := stq)
          (fun b => by
            rw [hq1, hLk.1, hb]
            refine (lookB_eq (fun r hr hd => ?_)).symm
            rcases hbefore r hr with h | h
            · exact hDr r hr h
            · rw [h] at hd; exact absurd rfl hd)
          (fun t u ht => by
            obtain ⟨h1, h2⟩ := hq2 t u ht
            rw [hf, ← h1, hLk.2.1]
            exact lookF_eq (fun r hr hd => hDr r hr (h2 r hr hd)))
          (by rw [hq3, hLk.2.2, hdf])
        unfold wpOp
        simp only [hio]
        rw [if_pos (wanted_ok hs'.fr hwq)]
        left
        subst hw
        rw [← w1]
        refine op_ok hF hs'.wr hs'.S hs'.fr hpan _ _ (fun u c1 k1 k2 k3 k4 => ?_)
        exact ⟨c1, rfl, ⟨by rw [k1, hs'.S], k2, hs'.le.trans k3, hs'.fr.mono k3, hs'.df.mono k3⟩, u, k4, rfl⟩
      have hDp' : (listed.setIfInBounds i true).getD p false = false := by rw [getD_set_ne false (by omega)]; exact hDp
      obtain ⟨T1, r, T2, rfl, e1, e2, e3, e4, hb1, hf1, hdf1⟩ := hR2 i o (Nat.zero_le _) (by omega) hio
      obtain ⟨_, _, _, hstep, st1, hput⟩ := hR1 r (by simp)
      -- those ahead of it
      have hT1 : ∀ r' ∈ T1, listed.getD r'.i false = true ∨ Indep ops r' r := by
        intro r' hr'
        have := (hpair r' (by simp [hr']) r (by simp) (by rw [e1]; exact e3 r' hr')).2
        rw [e1] at this
        rcases this with h | h
        · exact .inl (hanc _ h (by have := e3 r' hr'; omega))
        · exact .inr h
      have hT2 : ∀ r' ∈ T2, listed.getD r'.i false = false ∨ Indep ops r r' := by
        intro r' hr'
        have hlt := e4 r' hr'
        have := (hpair r (by simp) r' (by simp [hr']) (by rw [e1]; exact hlt)).2
        rcases this with h | h
        · left
          cases hD : listed.getD r'.i false with
          | false => rfl
          | true =>
            exfalso
            have hi' : r.i ∈ (ancAll [] ops.toList).getD r'.i [] := h
            have := ancAll_sub hcl ops.toList [] (fun j => by simp) (fun k _ x hx => by simp at hx) r'.i hD r.i hi'
            rw [e1, hDi] at this; cases this
        · exact .inr h
      have agF : ∀ t ∈ o.looksAt ops, look sD.fr t = look r.st.fr t := by
        intro t ht
        rw [hf, hf1, lookF_app, lookF_none (T := r :: T2)]
        · refine lookF_eq (fun r' hr' hd => ?_)
          rcases hT1 r' hr' with h | h
          · exact h
          · exfalso
            exact (Oper.apart_spec h.1).1 t hd (by rw [e2]; exact ht)
        · intro r' hr' hD hd
          rcases List.mem_cons.1 hr' with rfl | hr'
          · rw [e1, hDi] at hD; cases hD
          · rcases hT2 r' hr' with h | h
            · rw [h] at hD; cases hD
            · exact (Oper.apart_spec h.1).2.2 t hd (by rw [e2]; exact ht)
      have agB : ∀ b ∈ r.rd, look sD.bs b = look r.st.bs b := by
        intro b hbr
        rw [hb, hb1, lookB_app, lookB_none (T := r :: T2)]
        · refine lookB_eq (fun r' hr' hd => ?_)
          rcases hT1 r' hr' with h | h
          · exact h
          · exact absurd hbr (h.2.1 b hd).1
        · intro r' hr' hD
          rcases List.mem_cons.1 hr' with rfl | hr'
          · rw [e1, hDi] at hD; cases hD
          · rcases hT2 r' hr' with h | h
            · rw [h] at hD; cases hD
            · cases hl : look r'.ds b with
              | none => rfl
              | some x => exact absurd hbr (h.2.2 b (by rw [hl]; simp)).1
      have hev : ∀ x ∈ o.op.operands, sD.ev x = r.st.ev x := by
        intro x hx
        cases x with
        | tmp t =>
          show (look sD.fr t).getD .undef = (look r.st.fr t).getD .undef
          rw [agF t (List.mem_append_left _ (List.mem_filterMap.2 ⟨.tmp t, by simpa using hx, rfl⟩))]
        | _ => rfl
      have hwt : aWanted ops sD o = aWanted ops r.st o := by
        unfold aWanted
        cases hg : o.guard with
        | none => rfl
        | some gw =>
          obtain ⟨j, want⟩ := gw
          simp only
          cases hj : ops[j]? with
          | none => rfl
          | some g =>
            simp only
            cases hd : g.dst with
            | none => rfl
            | some d =>
              simp only
              rw [agF d (by simp [Oper.looksAt, hg, hj, hd])]
      -- the next state
      have hD' : ∀ k, (listed.setIfInBounds i true).getD k false = if k = i then true else listed.getD k false := by
        intro k
        by_cases e : k = i
        · subst e; simp [hsz, hilt]
        · rw [if_neg e, getD_set_ne false (fun h => e h.symm)]
      have hcl' : Closed ops (fun k => (listed.setIfInBounds i true).getD k false = true) := by
        intro j oj hj hDj e he hb'
        simp only [hD'] at hDj ⊢
        split
        · rfl
        · by_cases ej : j = i
          · subst ej
            have : oj = o := Option.some.inj (hj.symm.trans hio)
            subst this
            exact hdep' e he hb'
          · rw [if_neg ej] at hDj
            exact hcl j oj hj hDj e he hb'
      have hcnt' : cnt (fun k => (listed.setIfInBounds i true).getD k false) ops.size ≤ fuel := by
        have := cnt_set (D := fun k => listed.getD k false) (D' := fun k => (listed.setIfInBounds i true).getD k false) hDi (by simp only [hD']; simp) (fun k hk => by simp only [hD']; rw [if_neg hk]) hilt
        omega
      have hputs : ∃ s', sD.put n o.dst r.v r.ds = some s' := by
        rw [e2] at hput
        unfold St.put at hput ⊢
        split at hput
        · split at hput
          · rename_i hlt; exact ⟨_, by rw [if_pos hlt]⟩
          · cases hput
        · exact ⟨_, rfl⟩
      obtain ⟨s', hs'⟩ := hputs
      obtain ⟨k1, k2, k3⟩ := put_look hs'
      have hB' : ∀ b, look s'.bs b = lookB (fun k => (listed.setIfInBounds i true).getD k false) (T1 ++ r :: T2) b (look st.bs b) := by
        intro b
        rw [k1, hb]
        cases hl : look r.ds b with
        | none =>
          refine lookB_eq (fun r' hr' hd => ?_)
          simp only [hD']
          split
          · rename_i hri
            exfalso
            have : r' = r := by
              rcases List.mem_append.1 hr' with h | h
              · have := e3 r' h; omega
              · rcases List.mem_cons.1 h with rfl | h
                · rfl
                · have := e4 r' h; omega
            subst this
            exact hd hl
          · rfl
        | some x =>
          simp only
          rw [lookB_app]
          simp only [lookB, hl, e1, hD', if_true]
          rw [lookB_none]
          intro r' hr' hDr
          rw [if_neg (by have := e4 r' hr'; omega)] at hDr
          rcases hT2 r' hr' with h | h
          · rw [h] at hDr; cases hDr
          · exact (h.2.1 b (by rw [hl]; simp)).2
      have hF' : ∀ t, look s'.fr t = lookF (fun k => (listed.setIfInBounds i true).getD k false) (T1 ++ r :: T2) t (look st.fr t) := by
        intro t
        rw [k2, hf]
        split
        · rename_i hd
          rw [lookF_app]
          simp only [lookF, e1, hD', if_true, e2, hd]
          rw [lookF_none]
          intro r' hr' hDr hd'
          have hlt := e4 r' hr'
          rcases (hpair r (by simp) r' (by simp [hr']) (by rw [e1]; exact hlt)).1 with h | h
          · rw [e2, hd] at h; cases h
          · rw [e2, hd, hd'] at h; exact h rfl
        · rename_i hd
          refine lookF_eq (fun r' hr' hd' => ?_)
          simp only [hD']
          split
          · rename_i hri
            exfalso
            have : r' = r := by
              rcases List.mem_append.1 hr' with h | h
              · have := e3 r' h; omega
              · rcases List.mem_cons.1 h with rfl | h
                · rfl
                · have := e4 r' h; omega
            subst this
            rw [e2] at hd'
            exact hd hd'
          · rfl
      unfold wpOp
      simp only [hio]
      subst hw
      rcases hstep with ⟨s1, s2, s3, s4⟩ | ⟨s1, s2, s3⟩
      · rw [e2, ← hwt] at s1
        rw [if_neg (by rw [wanted_ok hs.fr s1]; decide)]
        rw [s2, s3] at hs'
        exact ih _ _ _ (by simpa using hsz) hcl' hDp' hcnt' ⟨c, s', rfl, hs.skip hs', hB', hF', k3.trans hdf⟩
      · rw [e2, ← hwt] at s1
        rw [if_pos (wanted_ok hs.fr s1)]
        left
        have hop : aOp P cfg callF sD o = some (.val r.v r.ds) := by
          rw [e2] at s2
          refine frame hev (fun b hb => agB b ?_) s2
          rw [s3, e2]; exact hb
        exact op_ok hF hs.wr hs.S hs.fr hop _ _ (fun u c1 q1 q2 q3 q4 => ih _ _ _ (by simpa using hsz) hcl' hDp' hcnt' ⟨c1, s', rfl, hs.put hs' q1 q2 q3 q4, hB', hF', k3.trans hdf⟩)


end
end Go.Ab
/- Regions whose order is drawn: the test. -/
namespace Go.Ab
open Go

section
variable {P : Program}

theorem valueOp_eff {op : Op} (h : valueOp op = true) : effOp op = false := by
  cases op <;> first | rfl | cases h

theorem valueOp_rd {cfg : Cfg} {st : St} {o : Oper} (h : valueOp o.op = true) : readsK cfg st o = [] := by
  obtain ⟨dst, op, type, pos, after, guard⟩ := o
  cases op <;> first | rfl | cases h

theorem eff_ds {cfg : Cfg} {callF : CallF} {st : St} {o : Oper} {v : AV} {ds : List (Nat × Blk)} (h : effOp o.op = false) (hr : aOp P cfg callF st o = some (.val v ds)) : ds = [] := by
  have hp : ∀ {x : Option AV}, pv x = some (.val v ds) → ds = [] := fun hx => by
    obtain ⟨_, _, e⟩ := pv_some hx
    injection e
  obtain ⟨dst, op, type, pos, after, guard⟩ := o
  cases op <;> first | cases h | skip
  all_goals simp only [aOp] at hr
  all_goals try (cases hr; done)
  all_goals try exact hp hr
  case pick c a b =>
    split at hr
    · exact hp hr
    · cases hr
  case build t ps =>
    unfold aBuild at hr
    (repeat' split at hr) <;> first | cases hr | skip
    all_goals rfl
  case nilCheck x =>
    split at hr
    · split at hr
      · exact hp hr
      · cases hr
    · exact hp hr
    · exact hp hr
    · cases hr
  case binOp op t x y _ =>
    split at hr
    · exact hp hr
    · exact hp hr
  case makeInterface t x =>
    split at hr
    · cases hr
    · split at hr
      · exact hp hr
      · cases hr
    · cases hr
  case makeFunc fn first captured =>
    cases fn <;> simp only at hr <;> try (cases hr; done)
    split at hr
    · exact hp hr
    · cases hr
  case extract t i =>
    split at hr
    · exact hp hr
    · cases hr
  case panic x =>
    split at hr
    · split at hr <;> cases hr
    · cases hr
  case defer cl =>
    obtain ⟨callee, args, argTypes⟩ := cl
    cases callee <;> simp only at hr <;> first | (cases hr; done) | (split at hr <;> cases hr)
  case call cl =>
    obtain ⟨callee, args, argTypes⟩ := cl
    cases callee with
    | value f => cases h
    | invoke r m => cases h
    | builtin b =>
      cases b <;> first | cases h | skip
      all_goals simp only [aBuiltin] at hr
      all_goals (repeat' split at hr)
      all_goals first | cases hr | skip
      all_goals rfl

theorem keys_iff {ds : List (Nat × Blk)} {b : Nat} : look ds b ≠ none ↔ b ∈ keysOf ds := by
  constructor
  · intro h
    cases hl : look ds b with
    | none => exact absurd hl h
    | some x => exact mem_keys_of_look hl
  · intro h
    obtain ⟨x, hx⟩ := look_of_mem_keys h
    rw [hx]; simp

theorem apart_spec' {a b : List Nat} (h : apartKeys a b = true) {x : Nat} (hx : x ∈ a) : x ∉ b := by
  have := List.all_eq_true.1 h x hx
  simpa using this

theorem indep_of {cfg : Cfg} {callF : CallF} {ops : Array Oper} {dyn : List (Nat × Nat)} {r r' : Rec} (h : pairOk dyn ops r.i r'.i r.o r'.o = true) (h1 : StepR P cfg callF ops r) (h2 : StepR P cfg callF ops r')
    (hd : (r.i, r'.i) ∈ dyn → apartKeys (keysOf r.ds) (r'.rd ++ keysOf r'.ds) = true ∧ apartKeys (keysOf r'.ds) (r.rd ++ keysOf r.ds) = true) : Indep ops r r' := by
  simp only [pairOk, Bool.and_eq_true, Bool.or_eq_true, Bool.not_eq_true'] at h
  obtain ⟨hap, h⟩ := h
  have noeff : ∀ {r : Rec}, StepR P cfg callF ops r → effOp r.o.op = false → r.ds = [] := by
    rintro r (⟨_, _, e, _⟩ | ⟨_, e, _⟩) hh
    · exact e
    · exact eff_ds hh e
  have nord : ∀ {r : Rec}, StepR P cfg callF ops r → valueOp r.o.op = true → r.rd = [] := by
    rintro r (⟨_, _, _, e⟩ | ⟨_, _, e⟩) hh
    · exact e
    · rw [e]; exact valueOp_rd hh
  refine ⟨hap, ?_⟩
  rcases h with ⟨ha, hb⟩ | hdy
  · constructor
    · intro b hbn
      rcases ha with ha | ha
      · rw [noeff h1 ha] at hbn; exact absurd rfl hbn
      · rw [nord h2 ha, noeff h2 (valueOp_eff ha)]
        exact ⟨by simp, rfl⟩
    · intro b hbn
      rcases hb with hb | hb
      · rw [noeff h2 hb] at hbn; exact absurd rfl hbn
      · rw [nord h1 hb, noeff h1 (valueOp_eff hb)]
        exact ⟨by simp, rfl⟩
  · obtain ⟨g1, g2⟩ := hd (by simpa using hdy)
    constructor
    · intro b hbn
      have := apart_spec' g1 (keys_iff.1 hbn)
      rw [List.mem_append] at this
      refine ⟨fun h => this (.inl h), ?_⟩
      cases hl : look r'.ds b with
      | none => rfl
      | some x => exact absurd (.inr (keys_iff.1 (by rw [hl]; simp))) this
    · intro b hbn
      have := apart_spec' g2 (keys_iff.1 hbn)
      rw [List.mem_append] at this
      refine ⟨fun h => this (.inl h), ?_⟩
      cases hl : look r.ds b with
      | none => rfl
      | some x => exact absurd (.inr (keys_iff.1 (by rw [hl]; simp))) this

theorem draw_ok (hm : P.follows .mixedOrders = true) {cfg : Cfg} {callF : CallF} (hF : FnOk P callF) : DrawOk P cfg callF (fun f id ops => regOk (cfg.dyn f id) ops) := by
  intro f n id ops hreg w0 G X Lo c0 c st st' a e h hs
  have key : ∀ (trk : Bool) (t : Trk), aOps P cfg callF n ops trk 0 ops.toList st [] = some (.norm, st', t) → st'.df.length = st.df.length → ((cfg.dyn f id ≠ [] → trk = true ∧ dynOk t (cfg.dyn f id) = true)) →
      (Code.region id ops true).wp P (Post w0 G X Lo n c0 .norm st') a c.w := by
    intro trk t h1 h2 h3
    obtain ⟨T, hT, _, hTt⟩ := runs_of ops.toList 0 st st' [] t h1 h2 (fun k _ => rfl)
    obtain ⟨hR1, _⟩ := Runs.at hT (fun j => by simp)
    have hr := fun j (hj : j < ops.size) => List.all_eq_true.1 hreg j (List.mem_range.2 hj)
    refine wp_region_any hm ?_
    obtain ⟨g1, g2⟩ := hs.wr.same { c.w with drawn := c.w.drawn + 1 } rfl rfl rfl
    refine any_ok hF hT ?_ ?_ ops.size _ a _ (by simp) ?_ ?_ ⟨{ c with w := { c.w with drawn := c.w.drawn + 1 } }, st, rfl, ⟨hs.S, g1, hs.le.trans g2, hs.fr.mono g2, hs.df.mono g2⟩, ?_, ?_, rfl⟩
    · intro r hr1 r' hr2 hlt
      obtain ⟨_, q1, q2, _⟩ := hR1 r hr1
      obtain ⟨_, q1', q2', _⟩ := hR1 r' hr2
      have hj := (Array.getElem?_eq_some_iff.1 q1').1
      have h4 := hr r'.i hj
      rw [q1'] at h4
      simp only [Bool.and_eq_true] at h4
      have h5 := List.all_eq_true.1 h4.2 r.i (List.mem_range.2 hlt)
      rw [q1] at h5
      simp only [Bool.and_eq_true, Bool.or_eq_true] at h5
      refine ⟨?_, ?_⟩
      · rcases h5.1 with h | h
        · left; simpa using h
        · right; simpa using h
      · rcases h5.2 with h | h
        · left; simpa using h
        · right
          refine indep_of h q2 q2' (fun hd => ?_)
          obtain ⟨htr, hdy⟩ := h3 (fun e => by rw [e] at hd; simp at hd)
          have := List.all_eq_true.1 hdy _ hd
          simp only at this
          rw [hTt htr r hr1, hTt htr r' hr2] at this
          simpa using this
    · intro j o ho e he hb
      have hj := (Array.getElem?_eq_some_iff.1 ho).1
      have h4 := hr j hj
      rw [ho] at h4
      simp only [Bool.and_eq_true] at h4
      have h5 := List.all_eq_true.1 h4.1 e he
      rw [hb] at h5
      simpa using h5
    · intro j o ho hj
      simp [Array.getD] at hj
    · have : ∀ m, cnt (fun k => (Array.replicate ops.size false).getD k false) m ≤ m := by
        intro m
        induction m with
        | zero => exact Nat.le_refl _
        | succ m ih => simp only [cnt]; split <;> omega
      exact this _
    · intro b
      rw [lookB_none]
      intro r _ hd
      simp [Array.getD] at hd
    · intro b
      rw [lookF_none]
      intro r _ hd
      simp [Array.getD] at hd
  have keyP : aRegP P cfg callF (cfg.dyn f id) n ops st = some (e, st') → (Code.region id ops true).wp P (Post w0 G X Lo n c0 e st') a c.w := by
    intro h
    unfold aRegP at h
    split at h
    case h_2 => cases h
    rename_i p stp h1
    split at h
    case h_2 => cases h
    rename_i op hop
    split at h
    case isFalse => cases h
    rename_i hpo
    obtain ⟨hpo, hdfl⟩ := hpo
    simp only at h
    split at h
    case h_2 => cases h
    rename_i hwq
    split at h
    case h_2 => cases h
    rename_i v ds hpan
    cases h
    obtain ⟨_, hplt, T, hT⟩ := runsP_of _ _ _ _ _ h1
    rw [Nat.sub_zero] at hT
    have hplt : p < ops.size := by simpa using hplt
    have hlen : (ops.toList.take p).length = p := by simp; omega
    obtain ⟨hR1, _⟩ := RunsP.at hT (fun j hj => by
      rw [hlen] at hj
      rw [List.getElem?_take, if_pos hj]; simp)
    rw [hlen] at hR1
    have hr := fun j (hj : j < ops.size) => List.all_eq_true.1 hreg j (List.mem_range.2 hj)
    simp only [panOk, Bool.and_eq_true] at hpo
    obtain ⟨⟨hp1, hp2⟩, hp3⟩ := hpo
    refine wp_region_any hm ?_
    obtain ⟨g1, g2⟩ := hs.wr.same { c.w with drawn := c.w.drawn + 1 } rfl rfl rfl
    refine any_pan (stq := { stp with fr := stp.fr.filter fun x => knownAt ops p x.1 }) hF hop hT ?_ ?_ ?_ ?_ rfl ?_ rfl hwq hpan ops.size (Array.replicate ops.size false) a _ (by simp) ?_ (by simp [Array.getD]) ?_ ⟨{ c with w := { c.w with drawn := c.w.drawn + 1 } }, st, rfl, ⟨hs.S, g1, hs.le.trans g2, hs.fr.mono g2, hs.df.mono g2⟩, ?_, ?_, rfl⟩
    · intro r hr1 r' hr2 hlt
      obtain ⟨_, _, q1, q2, _⟩ := hR1 r hr1
      obtain ⟨_, q0', q1', q2', _⟩ := hR1 r' hr2
      have hj := (Array.getElem?_eq_some_iff.1 q1').1
      have h4 := hr r'.i hj
      rw [q1'] at h4
      simp only [Bool.and_eq_true] at h4
      have h5 := List.all_eq_true.1 h4.2 r.i (List.mem_range.2 hlt)
      rw [q1] at h5
      simp only [Bool.and_eq_true, Bool.or_eq_true] at h5
      refine ⟨?_, ?_⟩
      · rcases h5.1 with h | h
        · left; simpa using h
        · right; simpa using h
      · rcases h5.2 with h | h
        · left; simpa using h
        · right
          refine indep_of h q2 q2' (fun hd => ?_)
          exfalso
          have := List.all_eq_true.1 hp1 _ hd
          simp only [decide_eq_true_eq] at this
          omega
    · intro j o ho e he hb
      have hj := (Array.getElem?_eq_some_iff.1 ho).1
      have h4 := hr j hj
      rw [ho] at h4
      simp only [Bool.and_eq_true] at h4
      have h5 := List.all_eq_true.1 h4.1 e he
      rw [hb] at h5
      simpa using h5
    · intro r hr1
      obtain ⟨_, q0, q1, q2, _⟩ := hR1 r hr1
      have h4 := List.all_eq_true.1 hp2 r.i (List.mem_range.2 (by omega))
      rw [q1] at h4
      simp only [Bool.or_eq_true] at h4
      rcases h4 with h | h
      · left; simpa using h
      · right
        have he : effOp r.o.op = false := by simpa using h
        rcases q2 with ⟨_, _, e, _⟩ | ⟨_, e, _⟩
        · exact e
        · exact eff_ds he e
    · intro j hpj hj
      have h4 := List.all_eq_true.1 hp3 j (List.mem_range.2 hj)
      simp only [Bool.or_eq_true, decide_eq_true_eq] at h4
      rcases h4 with h | h
      · omega
      · simpa using h
    · intro t u ht
      obtain ⟨hk, h2⟩ := look_filter (q := knownAt ops p) ht
      refine ⟨h2, fun r hr1 hd => ?_⟩
      obtain ⟨_, q0, q1, _⟩ := hR1 r hr1
      have hj := (Array.getElem?_eq_some_iff.1 q1).1
      have h4 := List.all_eq_true.1 hk r.i (List.mem_range.2 hj)
      rw [q1] at h4
      simp only [Bool.or_eq_true] at h4
      rcases h4 with h | h
      · rw [hd] at h; simp at h
      · simpa using h
    · intro j o ho hj
      simp [Array.getD] at hj
    · have : ∀ m, cnt (fun k => (Array.replicate ops.size false).getD k false) m ≤ m := by
        intro m
        induction m with
        | zero => exact Nat.le_refl _
        | succ m ih => simp only [cnt]; split <;> omega
      exact this _
    · intro b
      rw [lookB_none]
      intro r _ hd
      simp [Array.getD] at hd
    · intro b
      rw [lookF_none]
      intro r _ hd
      simp [Array.getD] at hd
  unfold aRegion at h
  rw [if_pos rfl] at h
  split at h
  · rename_i hdyn
    split at h
    · rename_i st1 t h1
      split at h
      · rename_i h2
        cases h
        exact key false t h1 h2 (fun hne => absurd hdyn hne)
      · cases h
    · exact keyP (by rw [hdyn]; exact h)
    · cases h
  · rename_i p ps hdyn
    split at h
    · rename_i st1 t h1
      split at h
      · rename_i h2
        cases h
        exact key true t h1 h2.2 (fun _ => ⟨rfl, by rw [hdyn]; exact h2.1⟩)
      · cases h
    · exact keyP (by rw [hdyn]; exact h)
    · cases h

/-- The tests on a program, all of them: these functions may be entered. -/
def fnOkB (P : Program) (cfg : Cfg) (f : FuncId) : Bool :=
  match P.funcs[f]? with
  | some fn => match fn.body with
    | some b => (fn.name == "runtime.NumGoroutine") == false && codeOk (fun id ops => regOk (cfg.dyn f id) ops) b
    | none => false
  | none => false

theorem cfg_ok (hm : P.follows .mixedOrders = true) {cfg : Cfg} {l : List FuncId} (hl : ∀ f, cfg.isF f = true → f ∈ l) (h : l.all (fnOkB P cfg) = true) (hp : ∀ f g, cfg.prim f = some g → PrimOk P f g) :
    CfgOk P cfg (fun f id ops => regOk (cfg.dyn f id) ops) := by
  refine ⟨fun f hf => ?_, fun callF hF => draw_ok hm hF, hp⟩
  have := List.all_eq_true.1 h f (hl f hf)
  unfold fnOkB at this
  split at this
  · rename_i fn hfn
    split at this
    · rename_i b hb
      simp only [Bool.and_eq_true] at this
      exact ⟨fn, b, hfn, hb, by simpa using this.1, this.2⟩
    · cases this
  · cases this

end
end Go.Ab
/- The row's end: a call that keeps all that was there. -/
namespace Go.Ab
open Go Go.ChangeShapes Go.WideShapes

section
variable {H : Type} {enc : TypeId × Value → H} {P : Program}

/-- Nothing of what was there has turned: the row's 'post'. -/
theorem post_of_old {f : Func} {s : ChangeSpec} {apart fresh handsOn again : Bool} {W W' : World} {args : Array Value} {v : Value} {ds gs : List (DataW H)} {before pa pv : List MemPlace}
    (hW : DataW.Whole enc P f.params.toList s.vars apart W args.toList ds gs before)
    (hres : ∀ (b : Nat) (sp : Nat → Bool) (hd : Bool), DataW.TrodAll enc P W' b sp hd f.resultTypes.toList (v.resultList f.resultTypes.size) (s.fn H (ds ++ gs)).results [])
    (hargs : ∀ sp : Nat → Bool, (∀ p ∈ before, sp p.block = true) → DataW.TrodAll enc P W' 0 sp true f.params.toList args.toList (s.fn H (ds ++ gs)).args pa)
    (hvars : ∀ sp : Nat → Bool, (∀ p ∈ before, sp p.block = true) → DataW.TrodVars enc P W' sp s.vars (s.fn H (ds ++ gs)).vars pv)
    (hps : before = pa ++ pv) (hos : W'.os = W.os) (hou : W'.output = W.output) (hk : ∀ i, i < W.heap.size → W'.heap[i]? = W.heap[i]?)
    (hok : ∀ (j : Nat) (t : TypeId) (r : Value), f.resultTypes[j]? = some t → (v.resultList f.resultTypes.size)[j]? = some r → Value.okWide P W' .any 0 t r) :
    s.post enc P f apart fresh handsOn again W args v W' := by
  have hold : ∀ p ∈ before, (fun b => decide (b < W.heap.size)) p.block = true := fun p hp => by simpa using hW.lt p hp
  have hkept : W.keptBut W' (· ∈ before) := by
    refine ⟨hos, hou, fun i hi => ?_⟩
    rw [hk i hi]
    split <;> simp_all
  refine ⟨ds, gs, before, [], pa, pv, hW, hres _ _ _, hargs _ hold, hvars _ hold, World.keptBut_mono (fun p hp => ⟨hp, ?_⟩) hkept, fun _ => ?_⟩
  · rw [hps, List.mem_append] at hp
    exact Or.inr hp
  · have hlt := hW.lt
    obtain ⟨_, _, _, _, _, hz, hn⟩ := hW
    refine ⟨hok, _, _, ([] ++ pa) ++ pv, ⟨[] ++ pa, pv, trodAll_append (hargs _ (fun _ _ => rfl)) (hres _ _ _), hvars _ (fun _ _ => rfl), rfl, ?_, ?_⟩, ?_⟩
    · intro b off hp
      have hp' : MemPlace.cell b off ∈ before := by rw [hps]; simpa using hp
      have hb : b < W.heap.size := hlt _ hp'
      rw [World.frozen?_of_block (w := W) (hk b hb)]
      exact hz b off hp'
    · intro ha
      have := hn ha
      rw [hps] at this
      simpa using this
    · intro p hp _
      rw [hps]
      simpa using hp
end

/-- A call of the evaluator's with nothing handed in, which says 'true'. -/
theorem calls_closed {P : Program} {callF : CallF} (hF : FnOk P callF) {f : FuncId} {r : Ret} (h : callF f [] [] = some r) (hr : ∃ out new, r = { pan := false, res := .bool true, out := out, new := new }) (W : World) :
    Calls P f #[] W fun e W' => e = .returned (.bool true) ∧ W'.os = W.os ∧ W'.output = W.output ∧ ∀ i, i < W.heap.size → W'.heap[i]? = W.heap[i]? := by
  obtain ⟨out, new, rfl⟩ := hr
  let c : Cx := { w := W, F := fOf (fun _ => False) (fun _ => 0) [], R := fun _ => 0, S := [] }
  have hW : WR W (fun _ => False) (fun _ => False) (fun _ => False) c :=
    ⟨Nat.le_refl _, fun _ _ _ => rfl, rfl, rfl, fun _ h => h.elim, fun b x h => by simp [c, look] at h, fun b x h => by simp [c, look] at h, fun b b' x x' h => by simp [c, look] at h, fun b x h => by simp [c, look] at h, fun _ => Iff.rfl⟩
  have := hF.ok h (c := c) (w0 := W) (vs := []) rfl (fun x hx => by simp at hx) hW VL.nil
  refine this.mono ?_
  rintro e W' ⟨c', v, rfl, _, h3, _, h5, h6⟩
  have hv := h5.bool_inv
  subst hv
  exact ⟨h6, h3.os, h3.out, fun i hi => h3.kept i hi (fun h => h)⟩

def isTrue : Option Ret → Bool
  | some { pan := false, res := .bool true, .. } => true
  | _ => false

theorem isTrue_spec {o : Option Ret} (h : isTrue o = true) : ∃ r, o = some r ∧ ∃ out new, r = { pan := false, res := .bool true, out := out, new := new } := by
  unfold isTrue at h
  split at h
  · exact ⟨_, rfl, _, _, rfl⟩
  · cases h

end Go.Ab
/- The evaluator once more, in its tests' order: what is tested stands at the head, the rest behind it; so that it may be run on values that are not known. -/
namespace Go.Ab
open Go

section
variable {R : Type}

/-- A test. -/
def bK (b : Bool) (x y : Option R) : Option R := match b with
  | true => x
  | false => y
/-- What may be none. -/
def oK {α : Type} (o : Option α) (k : α → Option R) : Option R := match o with
  | some a => k a
  | none => none

theorem bK_true {x y : Option R} : bK true x y = x := rfl
theorem bK_false {x y : Option R} : bK false x y = y := rfl
theorem oK_some {α : Type} {a : α} {k : α → Option R} : oK (some a) k = k a := rfl
theorem oK_none {α : Type} {k : α → Option R} : oK (none : Option α) k = none := rfl

theorem bK_inv {b : Bool} {x y : Option R} {r : R} (h : bK b x y = some r) : (b = true ∧ x = some r) ∨ (b = false ∧ y = some r) := by
  cases b
  · exact .inr ⟨rfl, h⟩
  · exact .inl ⟨rfl, h⟩
theorem bK_inv1 {b : Bool} {x : Option R} {r : R} (h : bK b x none = some r) : b = true ∧ x = some r := by
  cases b
  · cases h
  · exact ⟨rfl, h⟩
theorem bK_inv0 {b : Bool} {y : Option R} {r : R} (h : bK b none y = some r) : b = false ∧ y = some r := by
  cases b
  · exact ⟨rfl, h⟩
  · cases h
theorem oK_inv {α : Type} {o : Option α} {k : α → Option R} {r : R} (h : oK o k = some r) : ∃ a, o = some a ∧ k a = some r := by
  cases o with
  | none => cases h
  | some a => exact ⟨a, rfl, h⟩

/-- What an element's cells are. -/
inductive Lf where
  | fb
  | fi (k : IntKind)
  | fs
  | fl (agg : Bool) (fs : List Lf)

mutual
@[reducible] def Lf.T : Lf → Type
  | .fb => Bool
  | .fi _ => Int
  | .fs => List UInt8
  | .fl _ fs => Bool × List (Tu fs)
@[reducible] def Tu : List Lf → Type
  | [] => Unit
  | [f] => f.T
  | f :: g :: r => f.T × Tu (g :: r)
end

/-- A value of these cells. -/
def mkA (agg : Bool) (cs : List AV) : AV := match agg with
  | true => .agg cs
  | false => match cs with
    | [v] => v
    | _ => .undef

mutual
def Lf.mk : (f : Lf) → f.T → AV
  | .fb, x => .bool x
  | .fi k, n => .int k n
  | .fs, x => .str x
  | .fl agg fs, p => .slc p.1 (p.2.map fun d => mkA agg (Tu.mk fs d))
def Tu.mk : (fs : List Lf) → Tu fs → List AV
  | [], _ => []
  | [f], d => [f.mk d]
  | f :: g :: r, d => f.mk d.1 :: Tu.mk (g :: r) d.2
end

def mkV (agg : Bool) (fs : List Lf) (d : Tu fs) : AV := mkA agg (Tu.mk fs d)

/-- The cells of a value, of so many. -/
def unA (agg : Bool) (n : Nat) (v : AV) : Option (List AV) := match agg with
  | true => match v with
    | .agg cs => if cs.length = n then some cs else none
    | _ => none
  | false => if n = 1 then match v with
      | .agg _ => none
      | v => some [v]
    else none

mutual
def Lf.dec : (f : Lf) → AV → Option f.T
  | .fb, .bool x => some x
  | .fi k, .int k' n => if k = k' then some n else none
  | .fs, .str x => some x
  | .fl agg fs, .slc x es => match mapO (fun v => match unA agg fs.length v with
      | some cs => Tu.dec fs cs
      | none => none) es with
    | some l => some (x, l)
    | none => none
  | _, _ => none
/-- The first cells. -/
def Tu.dec : (fs : List Lf) → List AV → Option (Tu fs)
  | [], _ => some ()
  | [f], v :: _ => f.dec v
  | f :: g :: r, v :: vs => match f.dec v with
    | some x => match Tu.dec (g :: r) vs with
      | some y => some (x, y)
      | none => none
    | none => none
  | _ :: _, [] => none
end

def decV (agg : Bool) (fs : List Lf) (v : AV) : Option (Tu fs) := match unA agg fs.length v with
  | some cs => Tu.dec fs cs
  | none => none

theorem Tu.mk_length : ∀ (fs : List Lf) (d : Tu fs), (Tu.mk fs d).length = fs.length
  | [], _ => rfl
  | [_], _ => rfl
  | _ :: g :: r, d => by simp [Tu.mk, Tu.mk_length (g :: r)]

theorem unA_mk {agg : Bool} {n : Nat} {v : AV} {cs : List AV} (h : unA agg n v = some cs) : v = mkA agg cs ∧ cs.length = n := by
  cases agg with
  | true =>
    unfold unA at h
    cases v <;> simp at h
    obtain ⟨h1, rfl⟩ := h
    exact ⟨rfl, h1⟩
  | false =>
    unfold unA at h
    simp only at h
    split at h
    · rename_i hn
      split at h
      · cases h
      · cases h; subst hn; exact ⟨rfl, rfl⟩
    · cases h

theorem Lf.mk_cells : ∀ (f : Lf) (x : f.T), (f.mk x).cells = [f.mk x]
  | .fb, _ => rfl
  | .fi _, _ => rfl
  | .fs, _ => rfl
  | .fl _ _, _ => rfl

theorem mapO_some {α β : Type} {f : α → Option β} {g : β → α} (hf : ∀ a b, f a = some b → a = g b) : ∀ {l : List α} {r : List β}, mapO f l = some r → l = r.map g
  | [], r, h => by cases h; rfl
  | a :: l, r, h => by
    unfold mapO at h
    split at h
    · rename_i b hb
      split at h
      · rename_i bs hbs
        cases h
        rw [List.map_cons, ← hf a b hb, ← mapO_some hf hbs]
      · cases h
    · cases h

mutual
theorem Lf.dec_mk : ∀ {f : Lf} {v : AV} {x : f.T}, f.dec v = some x → v = f.mk x
  | .fb, v, x, h => by cases v <;> simp [Lf.dec] at h; subst h; rfl
  | .fi k, v, x, h => by
    cases v <;> simp [Lf.dec] at h
    obtain ⟨rfl, rfl⟩ := h
    rfl
  | .fs, v, x, h => by cases v <;> simp [Lf.dec] at h; subst h; rfl
  | .fl agg fs, v, x, h => by
    cases v <;> simp only [Lf.dec] at h <;> try (cases h; done)
    split at h
    · rename_i l hl
      cases h
      simp only [Lf.mk]
      congr 1
      refine mapO_some (fun a b hab => ?_) hl
      split at hab
      · rename_i cs hcs
        obtain ⟨h1, h2⟩ := unA_mk hcs
        obtain ⟨h3, h4⟩ := Tu.dec_mk hab
        rw [h1, ← h3, ← h2, List.take_length]
      · cases hab
    · cases h
theorem Tu.dec_mk : ∀ {fs : List Lf} {vs : List AV} {d : Tu fs}, Tu.dec fs vs = some d → vs.take fs.length = Tu.mk fs d ∧ fs.length ≤ vs.length
  | [], _, _, _ => by simp [Tu.mk]
  | [f], [], _, h => by simp [Tu.dec] at h
  | [f], v :: vs, d, h => by simp [Tu.mk, Lf.dec_mk h]
  | f :: g :: r, [], _, h => by simp [Tu.dec] at h
  | f :: g :: r, v :: vs, d, h => by
    simp only [Tu.dec] at h
    split at h
    · rename_i x hx
      split at h
      · rename_i y hy
        cases h
        obtain ⟨h1, h2⟩ := Tu.dec_mk hy
        simp only [List.length_cons] at h1 h2 ⊢
        simp [Tu.mk, h1, Lf.dec_mk hx, h2]
      · cases h
    · cases h
end

theorem decV_mk {agg : Bool} {fs : List Lf} {v : AV} {d : Tu fs} (h : decV agg fs v = some d) : v = mkV agg fs d := by
  unfold decV at h
  split at h
  · rename_i cs hcs
    obtain ⟨h1, h2⟩ := unA_mk hcs
    obtain ⟨h3, h4⟩ := Tu.dec_mk h
    unfold mkV
    rw [h1, ← h3, ← h2, List.take_length]
  · cases h

/-- An element of a list. -/
def elemAt (agg : Bool) (fs : List Lf) (es : List AV) (n : Int) : Option (Tu fs) :=
  if 0 ≤ n then match es[n.toNat]? with
    | some v => decV agg fs v
    | none => none
  else none

theorem mkV_scalar {f : Lf} {d : Tu [f]} : mkV false [f] d = f.mk d := by simp [mkV, mkA, Tu.mk]

theorem decV_cells {agg : Bool} {fs : List Lf} {v : AV} {d : Tu fs} (h : decV agg fs v = some d) : (mkV agg fs d).cells.length = fs.length := by
  cases agg with
  | true => simp [mkV, mkA, AV.cells, Tu.mk_length]
  | false =>
    unfold decV at h
    split at h
    · rename_i cs hcs
      obtain ⟨h1, h2⟩ := unA_mk hcs
      have : fs.length = 1 := by
        unfold unA at hcs
        simp only at hcs
        split at hcs
        · assumption
        · cases hcs
      match fs, this with
      | [f], _ => rw [mkV_scalar, Lf.mk_cells]; rfl
    · cases h

theorem elemAt_ok {agg : Bool} {fs : List Lf} {es : List AV} {n : Int} {d : Tu fs} (h : elemAt agg fs es n = some d) : 0 ≤ n ∧ es[n.toNat]? = some (mkV agg fs d) ∧ (mkV agg fs d).cells.length = fs.length := by
  unfold elemAt at h
  split at h
  · rename_i h0
    refine ⟨h0, ?_⟩
    split at h
    · rename_i v hv
      exact ⟨by rw [hv, decV_mk h], decV_cells h⟩
    · cases h
  · cases h

/-- A part of an element of a row, of a box. -/
def ldCells (fs : List Lf) (cs : List AV) (off : Nat) : Option (Tu fs) := Tu.dec fs (cs.drop off)
def ldRow (fs : List Lf) (es : List AV) (i off : Nat) : Option (Tu fs) := match es[i]? with
  | some e => ldCells fs e.cells off
  | none => none
/-- A row with a part of an element turned. -/
def stRow (es : List AV) (i off : Nat) (xs : List AV) : Option (List AV) := match es[i]? with
  | some e => match splice e.cells off xs with
    | some cs => some (es.set i (e.recell cs))
    | none => none
  | none => none

theorem ldCells_part {P : Program} {t : TypeId} {fs : List Lf} {cs : List AV} {off : Nat} {agg : Bool} (ha : isAggT P t = some agg) (hl : fs.length = P.cellsOf t) (hz : P.cellsOf t ≠ 0) (hs : agg = true ∨ fs.length = 1) {d : Tu fs}
    (h : ldCells fs cs off = some d) : part P t cs off = some (mkV agg fs d) := by
  obtain ⟨h1, h2⟩ := Tu.dec_mk h
  rw [List.length_drop] at h2
  unfold part
  rw [ha]
  cases agg with
  | true =>
    have : off + P.cellsOf t ≤ cs.length := by omega
    simp only [this, if_true, mkV, mkA]
    rw [← hl, h1]
  | false =>
    have hf : fs.length = 1 := by simpa using hs
    match fs, hf with
    | [f], _ =>
      simp only [mkV_scalar, Tu.mk, List.length_cons, List.length_nil] at h1 ⊢
      have : off < cs.length := by simp at h2; omega
      have h3 := congrArg (·[0]?) h1
      simpa [List.getElem?_take, List.getElem?_drop] using h3

/-! The operations. -/

/-- The kinds of a type's cells. -/
def leafs (P : Program) : Nat → TypeId → Option (List Lf)
  | 0, _ => none
  | d + 1, t => match P.underlying t with
    | some .bool => some [.fb]
    | some (.int k) => some [.fi k]
    | some .string => some [.fs]
    | some (.slice e) => match leafs P d e, isAggT P e with
      | some l, some agg => some [.fl agg l]
      | _, _ => none
    | some (.struct fs) => fs.toList.foldr (fun f r => match r, leafs P d f.type with
      | some r, some l => some (l ++ r)
      | _, _ => none) (some [])
    | some (.array n e) => match leafs P d e with
      | some l => some (List.replicate n l).flatten
      | none => none
    | _ => none

def loadK (P : Program) (bs : List (Nat × Blk)) (t : TypeId) (p : AV) (K : Res → Option R) : Option R :=
  match p with
  | .ptr b v i off => match ldBlk bs b v with
    | some x => match isAggT P t, leafs P 10 t with
      | some agg, some fs =>
        if fs.length = P.cellsOf t ∧ P.cellsOf t ≠ 0 ∧ (agg || fs.length == 1) = true then
          match x.k with
          | .row => oK (ldRow fs x.es i off) fun d => K (.val (mkV agg fs d) [])
          | .box => if i = 0 then match aLoad P bs t p with
              | some v => K (.val v [])
              | none => none
            else none
          | .dead => none
        else match aLoad P bs t p with
          | some v => K (.val v [])
          | none => none
      | _, _ => match aLoad P bs t p with
        | some v => K (.val v [])
        | none => none
    | none => none
  | _ => match aLoad P bs t p with
    | some v => K (.val v [])
    | none => none

def storeK (P : Program) (bs : List (Nat × Blk)) (t : TypeId) (p x : AV) (K : Res → Option R) : Option R :=
  match p with
  | .ptr b v i off => match ldBlk bs b v with
    | some blk => match blk.k with
      | .row => if x.cells.length = P.cellsOf t ∧ x.cells.all AV.okC = true ∧ (P.info? t).isSome = true then
          if blk.fz then none else
          match mapO (pureC bs) x.cells with
          | some xs => if (rowsA x).contains b then none else oK (stRow blk.es i off xs) fun es => K (.val .skp ((b, { blk with es := es }) :: freeze bs (rowsA x)))
          | none => none
        else none
      | _ => match aStore P bs t p x with
        | some ds => K (.val .skp ds)
        | none => none
    | none => none
  | _ => none

def binK (P : Program) (op : BinOp) (t : TypeId) (x y : AV) (K : Res → Option R) : Option R :=
  match x, y with
  | .str a, .str b => match op with
    | .add => bK (decide (a.length + b.length < 1000000000)) (K (.val (.str (a ++ b)) [])) none
    | _ => match aBin P op t (.str a) (.str b) with
      | some v => K (.val v [])
      | none => none
  | .int k a, .int k' b => match op with
    | .quo => if k = k' then bK (decide (b = 0)) none (K (.val (.int k (k.wrap (a.tdiv b))) [])) else none
    | .rem => if k = k' then bK (decide (b = 0)) none (K (.val (.int k (a.tmod b)) [])) else none
    | .shl => bK (decide (b < 0)) none (K (.val (.int k (k.wrap (a * 2 ^ (min b.toNat k.bits)))) []))
    | .shr => bK (decide (b < 0)) none (K (.val (.int k (a.fdiv (2 ^ (min b.toNat k.bits)))) []))
    | _ => match aBin P op t (.int k a) (.int k' b) with
      | some v => K (.val v [])
      | none => none
  | x, y => match aBin P op t x y with
    | some v => K (.val v [])
    | none => none

def elemsK (bs : List (Nat × Blk)) (x : AV) (K : List AV → Option R) : Option R :=
  match x with
  | .sref b v off len => match ldBlk bs b v with
    | some y => if y.k = .row then bK (decide (off + len ≤ y.es.length)) (K ((y.es.drop off).take len)) none else none
    | none => none
  | x => match elemsOf bs x with
    | some es => K es
    | none => none

def convK (P : Program) (bs : List (Nat × Blk)) (d : Option Tmp) (src dst : TypeId) (x : AV) (K : Res → Option R) : Option R :=
  match x with
  | .str s => match P.underlying dst with
    | some (.slice e) => match P.underlying e with
      | some (.int .u8) => if (P.underlying src).isSome then
          bK (decide (s.length < 1000000000)) (match newRow bs d 1 (s.map fun c => .int .u8 c.toNat) [] with
            | some r => K r
            | none => none) none
        else none
      | _ => none
    | _ => match aConv P bs d src dst (.str s) with
      | some r => K r
      | none => none
  | .int k n => match aConv P bs d src dst (.int k n) with
    | some r => K r
    | none => none
  | x => match P.underlying src with
    | some (.slice e) => match P.underlying dst with
      | some .string => match P.underlying e with
        | some (.int .u8) => elemsK bs x fun es => oK (bytesOf? es) fun l => K (.val (.str l) [])
        | _ => none
      | _ => match aConv P bs d src dst x with
        | some r => K r
        | none => none
    | _ => none

def boundK (d : Nat) (o : Option AV) (K : Nat → Option R) : Option R :=
  match o with
  | none => K d
  | some (.int _ n) => bK (decide (0 ≤ n)) (K n.toNat) none
  | some _ => none

def sliceK (P : Program) (bs : List (Nat × Blk)) (t : TypeId) (x : AV) (lo hi mx : Option AV) (K : Res → Option R) : Option R :=
  match mx with
  | some m => boundK 0 lo fun l => match x with
    | .slc c es => match P.underlying t with
      | some (.slice e) => if P.cellsOf e ≠ 0 ∧ hi.isSome = true then bK (es.all (fun y => decide (y.cells.length = P.cellsOf e))) (boundK es.length hi fun h => boundK 0 (some m) fun m =>
          bK (decide (l ≤ h ∧ h ≤ m ∧ m ≤ es.length)) (K (.val (.slc (decide (h = m)) ((es.drop l).take (h - l))) [])) none) none else none
      | _ => none
    | .sref b v off len => match P.underlying t with
      | some (.slice e) => match ldBlk bs b v with
        | some x => if x.k = .row ∧ x.sz = P.cellsOf e ∧ P.cellsOf e ≠ 0 ∧ hi.isSome = true then
            boundK len hi fun h => boundK 0 (some m) fun m => bK (decide (l ≤ h ∧ h ≤ m ∧ off + m ≤ x.es.length)) (bK (decide (m = l)) (K (.val (.slc true []) [])) (K (.val .undef []))) none
          else none
        | none => none
      | _ => none
    | _ => none
  | none => boundK 0 lo fun l => match x with
    | .str s => match P.underlying t with
      | some .string => boundK s.length hi fun h => bK (decide (l ≤ h ∧ h ≤ s.length)) (K (.val (.str ((s.drop l).take (h - l))) [])) none
      | _ => none
    | .slc c es => match P.underlying t with
      | some (.slice e) => if P.cellsOf e ≠ 0 then bK (es.all (fun y => decide (y.cells.length = P.cellsOf e))) (boundK es.length hi fun h =>
          bK (decide (l ≤ h ∧ h ≤ es.length)) (K (.val (.slc (c && decide (h = es.length)) ((es.drop l).take (h - l))) [])) none) none else none
      | _ => none
    | .sref b v off len => match P.underlying t with
      | some (.slice e) => match ldBlk bs b v with
        | some x => if x.k = .row ∧ x.sz = P.cellsOf e ∧ P.cellsOf e ≠ 0 then
            boundK len hi fun h => bK (decide (l ≤ h ∧ off + h ≤ x.es.length)) (bK (decide (l = 0 ∨ off + l < x.es.length)) (K (.val (.sref b v (off + l) (h - l)) [])) (K (.val (.slc false []) []))) none
          else none
        | none => none
      | _ => none
    | _ => none

/-- Which of so many. -/
def splitK (n : Int) : Nat → Nat → (Nat → Option R) → Option R
  | 0, _, _ => none
  | len + 1, i, K => bK (decide (n = (i : Int))) (K i) (splitK n len (i + 1) K)

def idxAddrK (P : Program) (bs : List (Nat × Blk)) (t : TypeId) (x i : AV) (K : Res → Option R) : Option R :=
  match P.underlying t with
  | some (.slice e) => match x, i with
    | .slc _ es, .int _ n => match isAggT P e, leafs P 10 e with
      | some agg, some fs => if fs.length = P.cellsOf e ∧ P.cellsOf e ≠ 0 then oK (elemAt agg fs es n) fun d => K (.val (.eptr (mkV agg fs d) 0) []) else none
      | _, _ => match aIndexAddr P bs t x i with
        | some v => K (.val v [])
        | none => none
    | .sref b v off len, .int _ n => match ldBlk bs b v with
      | some x => if x.k = .row ∧ x.sz = P.cellsOf e ∧ P.cellsOf e ≠ 0 then bK (decide (0 ≤ n ∧ n < len)) (K (.val (.ptr b v (off + n.toNat) 0) [])) none else none
      | none => none
    | _, _ => none
  | some (.array len e) => match i with
    | .int _ n => if P.cellsOf e ≠ 0 then match x with
        | .ptr b v j off => match cellsAt bs (.ptr b v j off) with
          | some _ => splitK n len 0 fun k => K (.val (.ptr b v j (off + k * P.cellsOf e)) [])
          | none => none
        | .eptr el off => splitK n len 0 fun k => K (.val (.eptr el (off + k * P.cellsOf e)) [])
        | _ => none
      else none
    | _ => none
  | _ => none

def idxK (P : Program) (t : TypeId) (x i : AV) (K : Res → Option R) : Option R :=
  match i with
  | .int _ n => match P.underlying t with
    | some (.array len e) => match x with
      | .agg cs => splitK n len 0 fun k => match part P e cs (k * P.cellsOf e) with
        | some v => K (.val v [])
        | none => none
      | _ => none
    | some .string => match x with
      | .str s => bK (decide (0 ≤ n)) (oK (s[n.toNat]?) fun b => K (.val (.int .u8 b.toNat) [])) none
      | _ => none
    | _ => none
  | _ => none

def lenK (P : Program) (bs : List (Nat × Blk)) (t : TypeId) (x : AV) (K : Res → Option R) : Option R :=
  match x with
  | .sref b v off len => match P.underlying t with
    | some (.slice _) => match ldBlk bs b v with
      | some y => if y.k = .row then bK (decide (off + len ≤ y.es.length)) (K (.val (.int .i64 len) [])) none else none
      | none => none
    | _ => none
  | x => match aLen P bs t x with
    | some v => K (.val v [])
    | none => none

def appGoK (P : Program) (ip : Bool) (bs : List (Nat × Blk)) (d : Option Tmp) (e : TypeId) (s : AV) (K : Res → Option R) (xs : List AV) : Option R :=
      if P.cellsOf e ≠ 0 ∧ (zeroOf P e).isSome = true then
      bK (xs.all fun y => decide (y.cells.length = P.cellsOf e)) (match s with
      | .slc c es => bK xs.isEmpty (K (.val s [])) (bK (c && bytesFit P e (es.length + xs.length) && es.all (fun y => decide (y.cells.length = P.cellsOf e))) (match newRow bs d (P.cellsOf e) (es ++ xs) [] with
          | some r => K r
          | none => none) none)
      | .sref b v off len => match ldBlk bs b v with
        | some blk => if blk.k = .row ∧ blk.sz = P.cellsOf e then
            bK (decide (off + len ≤ blk.es.length)) (bK xs.isEmpty (K (.val s [])) (if blk.fz = true then none else
              bK (decide (off = 0 ∧ len = blk.es.length) && bytesFit P e (len + xs.length)) (match keyOf d with
                | some k => K (.val (.sref k (nextV bs k) 0 (len + xs.length)) ((k, { v := nextV bs k, k := .row, fz := false, sz := blk.sz, es := blk.es.take len ++ xs }) :: (if k = b then [] else [(b, { blk with k := .dead })])))
                | none => none) (match ip with
                | true => bK (decide (off + len + xs.length ≤ blk.es.length)) (K (.val (.sref b v off (len + xs.length)) [(b, { blk with es := blk.es.take (off + len) ++ (xs ++ blk.es.drop (off + len + xs.length)) })])) none
                | false => none))) none
          else none
        | none => none
      | _ => none) none
      else none

def appendK (P : Program) (ip : Bool) (bs : List (Nat × Blk)) (d : Option Tmp) (sT xT : TypeId) (s x : AV) (K : Res → Option R) : Option R :=
  match P.underlying sT with
  | some (.slice e) =>
    match P.underlying xT with
    | some .string => match x with
      | .str y => appGoK P ip bs d e s K (y.map fun c => .int .u8 c.toNat)
      | _ => none
    | some (.slice _) => match x with
      | .str _ => none
      | x => elemsK bs x (appGoK P ip bs d e s K)
    | _ => none
  | _ => none

def mkSliceK (P : Program) (bs : List (Nat × Blk)) (d : Option Tmp) (t : TypeId) (l c : AV) (K : Res → Option R) : Option R :=
  match P.underlying t with
  | some (.slice e) => match l, c with
    | .int _ n, .int _ m => match zeroOf P e with
      | some z => if P.cellsOf e ≠ 0 then bK (decide (n = m ∧ 0 ≤ n ∧ n ≤ 1000000000) && bytesFit P e n.toNat) (match newRow bs d (P.cellsOf e) (List.replicate n.toNat z) [] with
          | some r => K r
          | none => none) none else none
      | none => none
    | _, _ => none
  | _ => none

/-- One of some, by tests. -/
inductive Alt (α : Type) where
  | leaf (a : α)
  | ite (b : Bool) (x y : Alt α)

def Alt.val {α : Type} : Alt α → α
  | .leaf a => a
  | .ite b x y => if b then x.val else y.val

def altK {α : Type} : Alt α → (α → Option R) → Option R
  | .leaf a, K => K a
  | .ite b x y, K => bK b (altK x K) (altK y K)

theorem altK_ok {α : Type} : ∀ {x : Alt α} {K : α → Option R} {r : R}, altK x K = some r → K x.val = some r
  | .leaf a, K, r, h => h
  | .ite b x y, K, r, h => by
    unfold altK at h
    unfold Alt.val
    rcases bK_inv h with ⟨h1, h2⟩ | ⟨h1, h2⟩
    · rw [h1]; exact altK_ok h2
    · rw [h1]; exact altK_ok h2

/-- What is told of a function. -/
structure PK where
  D : Type
  dec : List AV → List Blk → Option D
  out : D → Alt Ret

def PK.G (p : PK) (args : List AV) (out : List Blk) : Option Ret :=
  match p.dec args out with
  | some d => some (p.out d).val
  | none => none

abbrev CallK (R : Type) := FuncId → List AV → List Blk → (Ret → Option R) → Option R

def mapK {α β : Type} (f : α → (β → Option R) → Option R) : List α → (List β → Option R) → Option R
  | [], K => K []
  | a :: r, K => f a fun b => mapK f r fun l => K (b :: l)

theorem mapK_ok {α β : Type} {f : α → (β → Option R) → Option R} {g : α → Option β} (hf : ∀ a K r, f a K = some r → ∃ b, g a = some b ∧ K b = some r) : ∀ {l : List α} {K : List β → Option R} {r : R}, mapK f l K = some r → ∃ bs, mapO g l = some bs ∧ K bs = some r
  | [], K, r, h => ⟨[], rfl, h⟩
  | a :: l, K, r, h => by
    unfold mapK at h
    obtain ⟨b, h1, h2⟩ := hf _ _ _ h
    obtain ⟨bs, h3, h4⟩ := mapK_ok hf h2
    exact ⟨b :: bs, by simp only [mapO, h1, h3], h4⟩

def renCK (m : Nat → Nat → Option Nm) (a : AV) (K : AV → Option R) : Option R :=
  match a with
  | .sref b v off len => match m b v with
    | some (.key b' v') => K (.sref b' v' off len)
    | some (.row es) => bK (decide (off + len ≤ es.length)) (K (.slc false ((es.drop off).take len))) none
    | none => none
  | a => match renC m a with
    | some b => K b
    | none => none

theorem om_inv {x : Option AV} {K : AV → Option R} {r : R} (h : (match x with | some v => K v | none => none) = some r) : ∃ v, x = some v ∧ K v = some r := by
  cases x with
  | none => cases h
  | some v => exact ⟨v, rfl, h⟩

theorem renCK_ok {m : Nat → Nat → Option Nm} (a : AV) (K : AV → Option R) (r : R) (h : renCK m a K = some r) : ∃ b, renC m a = some b ∧ K b = some r := by
  unfold renCK at h
  split at h
  · split at h
    · rename_i hm
      exact ⟨_, by simp only [renC, hm], h⟩
    · rename_i hm
      obtain ⟨h1, h2⟩ := bK_inv1 h
      exact ⟨_, by simp only [renC, hm]; rw [if_pos (of_decide_eq_true h1)], h2⟩
    · cases h
  · exact om_inv h

def renDK (m : Nat → Nat → Option Nm) (a : AV) (K : AV → Option R) : Option R :=
  match a with
  | .fn f fs cs => match renD m (.fn f fs cs) with
    | some b => K b
    | none => none
  | a => renCK m a K

theorem renDK_ok {m : Nat → Nat → Option Nm} (a : AV) (K : AV → Option R) (r : R) (h : renDK m a K = some r) : ∃ b, renD m a = some b ∧ K b = some r := by
  unfold renDK at h
  split at h
  · exact om_inv h
  · rename_i hn
    obtain ⟨b, h1, h2⟩ := renCK_ok _ _ _ h
    refine ⟨b, ?_, h2⟩
    unfold renD
    split
    · exact absurd rfl (hn _ _ _)
    · exact h1

def renAK (m : Nat → Nat → Option Nm) (a : AV) (K : AV → Option R) : Option R :=
  match a with
  | .agg cs => mapK (renDK m) cs fun l => K (.agg l)
  | a => renDK m a K

theorem renAK_ok {m : Nat → Nat → Option Nm} (a : AV) (K : AV → Option R) (r : R) (h : renAK m a K = some r) : ∃ b, renA m a = some b ∧ K b = some r := by
  unfold renAK at h
  split at h
  · obtain ⟨l, h1, h2⟩ := mapK_ok renDK_ok h
    exact ⟨_, by simp only [renA, h1], h2⟩
  · rename_i hn
    obtain ⟨b, h1, h2⟩ := renDK_ok _ _ _ h
    refine ⟨b, ?_, h2⟩
    unfold renA
    split
    · exact absurd rfl (hn _)
    · exact h1

def renTK (m : Nat → Nat → Option Nm) (a : AV) (K : AV → Option R) : Option R :=
  match a with
  | .tup vs => mapK (renAK m) vs fun l => K (.tup l)
  | a => renAK m a K

theorem renTK_ok {m : Nat → Nat → Option Nm} (a : AV) (K : AV → Option R) (r : R) (h : renTK m a K = some r) : ∃ b, renT m a = some b ∧ K b = some r := by
  unfold renTK at h
  split at h
  · obtain ⟨l, h1, h2⟩ := mapK_ok renAK_ok h
    exact ⟨_, by simp only [renT, h1], h2⟩
  · rename_i hn
    obtain ⟨b, h1, h2⟩ := renAK_ok _ _ _ h
    refine ⟨b, ?_, h2⟩
    unfold renT
    split
    · exact absurd rfl (hn _)
    · exact h1

def pureCK (bs : List (Nat × Blk)) (a : AV) (K : AV → Option R) : Option R :=
  match a with
  | .eptr _ _ => none
  | .ptr _ _ _ _ => none
  | a => renCK (pureM bs) a K

theorem pureCK_ok {bs : List (Nat × Blk)} (a : AV) (K : AV → Option R) (r : R) (h : pureCK bs a K = some r) : ∃ b, pureC bs a = some b ∧ K b = some r := by
  unfold pureCK at h
  split at h
  · cases h
  · cases h
  · rename_i h1 h2
    obtain ⟨b, h3, h4⟩ := renCK_ok _ _ _ h
    refine ⟨b, ?_, h4⟩
    unfold pureC
    split
    · exact absurd rfl (h1 _ _)
    · exact absurd rfl (h2 _ _ _ _)
    · exact h3

def pureAK (bs : List (Nat × Blk)) (a : AV) (K : AV → Option R) : Option R :=
  match a with
  | .agg cs => mapK (pureCK bs) cs fun l => K (.agg l)
  | a => pureCK bs a K

theorem pureAK_ok {bs : List (Nat × Blk)} (a : AV) (K : AV → Option R) (r : R) (h : pureAK bs a K = some r) : ∃ b, pureA bs a = some b ∧ K b = some r := by
  unfold pureAK at h
  split at h
  · obtain ⟨l, h1, h2⟩ := mapK_ok pureCK_ok h
    exact ⟨_, by simp only [pureA, h1], h2⟩
  · rename_i hn
    obtain ⟨b, h1, h2⟩ := pureCK_ok _ _ _ h
    refine ⟨b, ?_, h2⟩
    unfold pureA
    split
    · exact absurd rfl (hn _)
    · exact h1

def argOfK (bs : List (Nat × Blk)) (byref : Bool) (v : AV) (K : AV → Option R) : Option R :=
  if byref then K v else
  match v with
  | .ptr b w i off => K (.ptr b w i off)
  | .fn f fs cs => K (.fn f fs cs)
  | v => pureAK bs v K

theorem argOfK_ok {bs : List (Nat × Blk)} {byref : Bool} (a : AV) (K : AV → Option R) (r : R) (h : argOfK bs byref a K = some r) : ∃ b, argOf bs byref a = some b ∧ K b = some r := by
  unfold argOfK at h
  split at h
  · rename_i hb
    exact ⟨a, by simp only [argOf, hb, if_true], h⟩
  · rename_i hb
    split at h
    · exact ⟨_, by simp only [argOf, hb, if_false, Bool.false_eq_true], h⟩
    · exact ⟨_, by simp only [argOf, hb, if_false, Bool.false_eq_true], h⟩
    · rename_i h1 h2
      obtain ⟨b, h3, h4⟩ := pureAK_ok _ _ _ h
      refine ⟨b, ?_, h4⟩
      unfold argOf
      rw [if_neg hb]
      split
      · exact absurd rfl (h1 _ _ _ _)
      · exact absurd rfl (h2 _ _ _)
      · exact h3

def callInK (bs : List (Nat × Blk)) (byref : Bool) (args : List AV) (K : List AV × List Nat × List Blk → Option R) : Option R :=
  mapK (argOfK bs byref) args fun args1 =>
    let ks := closeR bs 3 (addNew [] (args1.flatMap refsA))
    match mapO (renA (nameM bs ks outBase)) args1 with
    | none => none
    | some args2 => match mapN (renAt bs (nameM bs ks outBase)) ks with
      | none => none
      | some out => if (args.flatMap (argRows byref)).all (fun b => !ks.contains b) then K (args2, ks, out) else none

theorem callInK_ok {bs : List (Nat × Blk)} {byref : Bool} {args : List AV} {K : List AV × List Nat × List Blk → Option R} {r : R} (h : callInK bs byref args K = some r) : ∃ b, callIn bs byref args = some b ∧ K b = some r := by
  unfold callInK at h
  obtain ⟨args1, h1, h2⟩ := mapK_ok argOfK_ok h
  unfold callIn
  simp only [h1]
  simp only at h2
  split at h2
  · cases h2
  · rename_i args2 h3
    simp only [h3]
    split at h2
    · cases h2
    · rename_i out h4
      simp only [h4]
      split at h2
      · rename_i h5
        exact ⟨_, by rw [if_pos h5], h2⟩
      · cases h2

def renBlkK (m : Nat → Nat → Option Nm) (x : Blk) (K : Blk → Option R) : Option R :=
  match x.k with
  | .dead => K { v := 0, k := .dead, fz := x.fz, sz := x.sz, es := [] }
  | .row => K { v := 0, k := .row, fz := x.fz, sz := x.sz, es := x.es }
  | .box => mapK (renDK m) x.es fun es => K { v := 0, k := .box, fz := x.fz, sz := x.sz, es := es }

theorem renBlkK_ok {m : Nat → Nat → Option Nm} {x : Blk} {K : Blk → Option R} {r : R} (h : renBlkK m x K = some r) : ∃ b, renBlk m x = some b ∧ K b = some r := by
  unfold renBlkK at h
  unfold renBlk
  split at h
  · rename_i hk; simp only [hk]; exact ⟨_, rfl, h⟩
  · rename_i hk; simp only [hk]; exact ⟨_, rfl, h⟩
  · rename_i hk
    obtain ⟨es, h1, h2⟩ := mapK_ok renDK_ok h
    simp only [hk, h1]
    exact ⟨_, rfl, h2⟩

def backOutK (bs : List (Nat × Blk)) (m : Nat → Nat → Option Nm) : List Nat → List Blk → (List (Nat × Blk) → Option R) → Option R
  | [], [], K => K []
  | k :: ks, x :: xs, K =>
    match look bs k with
    | some y => renBlkK m x fun z => backOutK bs m ks xs fun r => K ((k, { z with v := y.v }) :: r)
    | none => none
  | _, _, _ => none

theorem backOutK_ok {bs : List (Nat × Blk)} {m : Nat → Nat → Option Nm} : ∀ {ks : List Nat} {xs : List Blk} {K : List (Nat × Blk) → Option R} {r : R}, backOutK bs m ks xs K = some r → ∃ o, backOut bs m ks xs = some o ∧ K o = some r
  | [], [], K, r, h => ⟨_, rfl, h⟩
  | k :: ks, x :: xs, K, r, h => by
    unfold backOutK at h
    unfold backOut
    split at h
    · rename_i y hy
      simp only [hy]
      obtain ⟨z, h1, h2⟩ := renBlkK_ok h
      obtain ⟨o, h3, h4⟩ := backOutK_ok h2
      simp only [h1, h3]
      exact ⟨_, rfl, h4⟩
    · cases h
  | [], _ :: _, K, r, h => by simp [backOutK] at h
  | _ :: _, [], K, r, h => by simp [backOutK] at h

/-- What comes back, where it is known what is frozen. -/
def callOut1 (bs : List (Nat × Blk)) (thaw : Bool) (d : Option Tmp) (ks : List Nat) (fr : List (Nat × Blk)) (r : Ret) (K : Res → Option R) : Option R :=
  let full := (thaw || r.new.any fun x => decide (x.k = .box)) && d.isSome
  let m := backM bs ks r full (d.getD 0)
  if (r.out.length ≤ 1000 ∧ (r.out.all fun x => decide (x.v = 0)) = true ∧ (r.new.all fun x => decide (x.v = 0)) = true) then
    renTK m r.res fun res => backOutK bs m ks r.out fun o =>
      match (if full then (if r.new.length ≤ 16 then backNew bs m (d.getD 0) 0 r.new else none) else some []) with
      | none => none
      | some n => bK r.pan (K (.pan res (n ++ (o ++ fr)))) (K (.val res (n ++ (o ++ fr))))
  else none

def callValK (cfg : Cfg) (callK : CallK R) (bs : List (Nat × Blk)) (d : Option Tmp) (f : FuncId) (args : List AV) (K : Res → Option R) : Option R :=
  callInK bs (cfg.byref f) args fun x => callK f x.1 x.2.2 fun r => match args.flatMap (argRows (cfg.byref f)) with
    | [] => callOut1 bs (cfg.thaw f) d x.2.1 [] r K
    | b :: l => bK (r.res.noSlc && allNoSlc r.out && allNoSlc r.new) (callOut1 bs (cfg.thaw f) d x.2.1 [] r K) (callOut1 bs (cfg.thaw f) d x.2.1 (freeze bs (b :: l)) r K)

theorem callOut1_ok {bs : List (Nat × Blk)} {thaw : Bool} {d : Option Tmp} {ks l : List Nat} {q : Ret} {fr : List (Nat × Blk)} (hfr : (if q.res.noSlc && allNoSlc q.out && allNoSlc q.new then [] else freeze bs l) = fr)
    {K : Res → Option R} {r : R} (h : callOut1 bs thaw d ks fr q K = some r) : ∃ v, callOut bs thaw d ks l q = some v ∧ K v = some r := by
  subst hfr
  unfold callOut1 at h
  unfold callOut
  simp only at h ⊢
  split at h
  · rename_i hc
    rw [if_pos hc]
    obtain ⟨res, h1, h2⟩ := renTK_ok _ _ _ h
    simp only [h1]
    obtain ⟨o, ho, h2⟩ := backOutK_ok h2
    simp only [ho]
    split at h2
    · cases h2
    · rename_i n hn
      simp only [hn]
      rcases bK_inv h2 with ⟨h3, h4⟩ | ⟨h3, h4⟩
      · simp only [h3, if_true]
        exact ⟨_, rfl, h4⟩
      · simp only [h3, Bool.false_eq_true, if_false]
        exact ⟨_, rfl, h4⟩
  · cases h

/-- A field's address. -/
def fieldAddrK (P : Program) (bs : List (Nat × Blk)) (s : TypeId) (x : AV) (f : Nat) (K : Res → Option R) : Option R :=
  match x with
  | .ptr b v j off => match ldBlk bs b v with
    | some blk => match blk.k with
      | .row => match P.underlying s with
        | some (.struct fs) => match fs[f]? with
          | some fl => if P.cellsOf fl.type = 0 then none else bK (decide (j < blk.es.length)) (K (.val (.ptr b v j (off + fl.offset)) [])) none
          | none => none
        | _ => none
      | _ => match aFieldAddr P bs s (.ptr b v j off) f with
        | some v => K (.val v [])
        | none => none
    | none => none
  | x => match aFieldAddr P bs s x f with
    | some v => K (.val v [])
    | none => none

def setAllK (bs : List (Nat × Blk)) (sz : Nat) : List (Nat × AV) → List AV → (List AV → Option R) → Option R
  | [], es, K => K es
  | (i, x) :: r, es, K => pureAK bs x fun y => if i < es.length ∧ y.cells.length = sz ∧ y.cells.all AV.okC = true then setAllK bs sz r (es.set i y) K else none

theorem setAllK_ok {bs : List (Nat × Blk)} {sz : Nat} : ∀ {ps : List (Nat × AV)} {es : List AV} {K : List AV → Option R} {r : R}, setAllK bs sz ps es K = some r → ∃ l, setAll bs sz es ps = some l ∧ K l = some r
  | [], es, K, r, h => ⟨_, rfl, h⟩
  | (i, x) :: ps, es, K, r, h => by
    unfold setAllK at h
    unfold setAll
    obtain ⟨y, h1, h2⟩ := pureAK_ok _ _ _ h
    simp only [h1]
    split at h2
    · rename_i hc
      rw [if_pos hc]
      exact setAllK_ok h2
    · cases h2

/-- A list of parts. -/
def buildSliceK (P : Program) (bs : List (Nat × Blk)) (d : Option Tmp) (t : TypeId) (len : Nat) (parts : List (Nat × AV)) (K : Res → Option R) : Option R :=
  match P.underlying t with
  | some (.slice e) =>
    match zeroOf P e with
    | some z =>
      if len * P.cellsOf e ≤ 1000000 ∧ P.cellsOf e ≠ 0 then
        setAllK bs (P.cellsOf e) parts (List.replicate len z) fun es => match newRow bs d (P.cellsOf e) es (freeze bs (parts.flatMap fun x => rowsA x.2)) with
        | some r => K r
        | none => none
      else none
    | none => none
  | _ => none

theorem buildSliceK_ok {P : Program} {bs : List (Nat × Blk)} {d : Option Tmp} {t : TypeId} {len : Nat} {parts : List (Nat × AV)} {K : Res → Option R} {r : R} (h : buildSliceK P bs d t len parts K = some r) : ∃ v, aBuildSlice P bs d t len parts = some v ∧ K v = some r := by
  unfold buildSliceK at h
  unfold aBuildSlice
  split at h
  · rename_i e he
    simp only [he]
    split at h
    · rename_i z hz
      simp only [hz]
      split at h
      · rename_i hc
        rw [if_pos hc]
        obtain ⟨es, h1, h2⟩ := setAllK_ok h
        simp only [h1]
        split at h2
        · rename_i q hq
          exact ⟨_, hq, h2⟩
        · cases h2
      · cases h
    · cases h
  · cases h

/-- No nil. -/
def nilChkK (bs : List (Nat × Blk)) (x : AV) (K : Res → Option R) : Option R :=
  match x with
  | .ptr b v i off => match ldBlk bs b v with
    | some blk => match blk.k with
      | .row => bK (decide (i < blk.es.length)) (K (.val (.ptr b v i off) [])) none
      | .box => if i = 0 then K (.val (.ptr b v i off) []) else none
      | .dead => none
    | none => none
  | .eptr e off => K (.val (.eptr e off) [])
  | .fn f fs cs => K (.val (.fn f fs cs) [])
  | _ => none

/-- Noughts. -/
def clearK (P : Program) (bs : List (Nat × Blk)) (t : TypeId) (x : AV) (K : Res → Option R) : Option R :=
  match P.underlying t with
  | some (.slice e) =>
    match x with
    | .slc _ [] => K (.val (.tup []) [])
    | .sref b v off len =>
      match ldBlk bs b v with
      | some blk =>
        match zeroOf P e with
        | some z =>
          if P.cellsOf e ≠ 0 ∧ blk.k = .row ∧ blk.fz = false ∧ blk.sz = P.cellsOf e then
            bK (decide (off + len ≤ blk.es.length)) (K (.val (.tup []) [(b, { blk with es := blk.es.take off ++ (List.replicate len z ++ blk.es.drop (off + len)) })])) none
          else none
        | none => none
      | none => none
    | _ => none
  | _ => none

/-- Copied. -/
def copyK (P : Program) (bs : List (Nat × Blk)) (dT : TypeId) (s x : AV) (K : Res → Option R) : Option R :=
  match P.underlying dT with
  | some (.slice e) =>
    match x with
    | .str _ => none
    | x => elemsK bs x fun xs => match s with
      | .sref b v off len =>
        match ldBlk bs b v with
        | some blk =>
          if P.cellsOf e ≠ 0 ∧ blk.k = .row ∧ blk.fz = false ∧ blk.sz = P.cellsOf e then
            bK (decide (off + len ≤ blk.es.length) && xs.all (fun y => decide (y.cells.length = P.cellsOf e)))
              (K (.val (.int .i64 ((min xs.length len : Nat) : Int)) [(b, { blk with es := blk.es.take off ++ (xs.take (min xs.length len) ++ blk.es.drop (off + min xs.length len)) })])) none
          else none
        | none => none
      | _ => none
  | _ => none

/-- One operation. -/
def opK (P : Program) (cfg : Cfg) (callF : CallF) (callK : CallK R) (f : FuncId) (st : St) (o : Oper) (K : Res → Option R) : Option R :=
  match o.op with
  | .pick c a b => match st.ev c with
    | .bool t => bK t (K (.val (st.ev a) [])) (K (.val (st.ev b) []))
    | _ => none
  | .load t a => loadK P st.bs t (st.ev a) K
  | .store t a x => storeK P st.bs t (st.ev a) (st.ev x) K
  | .binOp op t x y _ => if eqFree P t x y (st.ev x) (st.ev y) = true then binK P op t (st.ev x) (st.ev y) K else (match aNil P op t y (st.ev x) with | some v => K (.val v []) | none => none)
  | .convert src dst x => convK P st.bs o.dst src dst (st.ev x) K
  | .makeSlice t l c => mkSliceK P st.bs o.dst t (st.ev l) (st.ev c) K
  | .buildSlice t len ps => buildSliceK P st.bs o.dst t len (ps.toList.map fun x => (x.1, st.ev x.2)) K
  | .slice t x lo hi mx => sliceK P st.bs t (st.ev x) (lo.map st.ev) (hi.map st.ev) (mx.map st.ev) K
  | .fieldAddr t x n => fieldAddrK P st.bs t (st.ev x) n K
  | .indexAddr t x i => idxAddrK P st.bs t (st.ev x) (st.ev i) K
  | .index t x i => idxK P t (st.ev x) (st.ev i) K
  | .call { callee := .value q, args, .. } => match st.ev q with
    | .fn g first captured => callValK cfg callK st.bs o.dst g (first ++ args.toList.map st.ev ++ captured) K
    | _ => none
  | .call { callee := .builtin .len, args, argTypes } => match argTypes.toList, args.toList with
    | t :: _, x :: _ => lenK P st.bs t (st.ev x) K
    | _, _ => none
  | .call { callee := .builtin .append, args, argTypes } => match argTypes.toList, args.toList with
    | [sT, xT], [s, x] => appendK P (cfg.inp f) st.bs o.dst sT xT (st.ev s) (st.ev x) K
    | _, _ => none
  | .call { callee := .builtin .clear, args, argTypes } => match argTypes.toList, args.toList with
    | t :: _, x :: _ => clearK P st.bs t (st.ev x) K
    | _, _ => none
  | .call { callee := .builtin .copy, args, argTypes } => match argTypes.toList, args.toList with
    | [dT, _], [s, x] => copyK P st.bs dT (st.ev s) (st.ev x) K
    | _, _ => none
  | .nilCheck x => nilChkK st.bs (st.ev x) K
  | _ => match aOp P cfg callF st o with
    | some r => K r
    | none => none


theorem mt_inv {x : Option AV} {K : Res → Option R} {r : R} (h : (match x with | some v => K (.val v []) | none => none) = some r) : ∃ v, x = some v ∧ K (.val v []) = some r := by
  cases x with
  | none => cases h
  | some v => exact ⟨v, rfl, h⟩
theorem mr_inv {x : Option Res} {K : Res → Option R} {r : R} (h : (match x with | some v => K v | none => none) = some r) : ∃ v, x = some v ∧ K v = some r := by
  cases x with
  | none => cases h
  | some v => exact ⟨v, rfl, h⟩

variable {P : Program} {bs : List (Nat × Blk)} {K : Res → Option R} {r : R}

theorem loadK_ok {t : TypeId} {p : AV} (h : loadK P bs t p K = some r) : ∃ v, aLoad P bs t p = some v ∧ K (.val v []) = some r := by
  unfold loadK at h
  split at h
  · rename_i b v i off
    split at h
    · rename_i x hx
      split at h
      · rename_i agg fs hagg hfs
        split at h
        · rename_i hc
          obtain ⟨h1, h2, h3⟩ := hc
          have h4 : agg = true ∨ fs.length = 1 := by simpa using h3
          split at h
          · rename_i hk
            obtain ⟨d, hd, hK⟩ := oK_inv h
            refine ⟨_, ?_, hK⟩
            unfold ldRow at hd
            split at hd
            · rename_i e he
              simp only [aLoad, cellsAt, hx, hk, he]
              exact ldCells_part hagg h1 h2 h4 hd
            · cases hd
          · split at h
            · exact mt_inv h
            · cases h
          · cases h
        · exact mt_inv h
      · exact mt_inv h
    · cases h
  · exact mt_inv h

theorem storeK_ok {t : TypeId} {p x : AV} (h : storeK P bs t p x K = some r) : ∃ ds, aStore P bs t p x = some ds ∧ K (.val .skp ds) = some r := by
  unfold storeK at h
  split at h
  · rename_i b v i off
    split at h
    · rename_i blk hb
      split at h
      · rename_i hk
        split at h
        · rename_i hc
          split at h
          · cases h
          · rename_i hfz
            split at h
            · rename_i xs hxs
              split at h
              · cases h
              · rename_i hrow
                obtain ⟨es, hes, hK⟩ := oK_inv h
                unfold stRow at hes
                split at hes
                · rename_i e he
                  split at hes
                  · rename_i cs hcs
                    cases hes
                    refine ⟨_, ?_, hK⟩
                    simp only [aStore, hc, hb, hk, he, hxs, hcs]
                    simp at hfz hrow
                    simp [hfz, hrow, hc.2.2]
                  · cases hes
                · cases hes
            · cases h
        · cases h
      · split at h
        · rename_i ds hds
          exact ⟨ds, hds, h⟩
        · cases h
    · cases h
  · cases h

theorem binK_ok {op : BinOp} {t : TypeId} {x y : AV} (h : binK P op t x y K = some r) : ∃ v, aBin P op t x y = some v ∧ K (.val v []) = some r := by
  unfold binK at h
  split at h
  · split at h
    · obtain ⟨h1, h2⟩ := bK_inv1 h
      exact ⟨_, by simp only [aBin, if_pos (of_decide_eq_true h1)], h2⟩
    · exact mt_inv h
  · split at h
    · split at h
      · rename_i hk
        obtain ⟨h1, h2⟩ := bK_inv0 h
        exact ⟨_, by simp only [aBin, if_pos hk, aInts, if_neg (of_decide_eq_false h1)], h2⟩
      · cases h
    · split at h
      · rename_i hk
        obtain ⟨h1, h2⟩ := bK_inv0 h
        exact ⟨_, by simp only [aBin, if_pos hk, aInts, if_neg (of_decide_eq_false h1)], h2⟩
      · cases h
    · obtain ⟨h1, h2⟩ := bK_inv0 h
      exact ⟨_, by simp only [aBin, if_neg (of_decide_eq_false h1)], h2⟩
    · obtain ⟨h1, h2⟩ := bK_inv0 h
      exact ⟨_, by simp only [aBin, if_neg (of_decide_eq_false h1)], h2⟩
    · exact mt_inv h
  · exact mt_inv h

theorem elemsK_ok {x : AV} {K : List AV → Option R} (h : elemsK bs x K = some r) : ∃ es, elemsOf bs x = some es ∧ K es = some r := by
  unfold elemsK at h
  split at h
  · split at h
    · rename_i y hy
      split at h
      · rename_i hk
        obtain ⟨h1, h2⟩ := bK_inv1 h
        refine ⟨_, ?_, h2⟩
        simp only [elemsOf, rowAt, hy]
        rw [if_pos ⟨hk, of_decide_eq_true h1⟩]
      · cases h
    · cases h
  · split at h
    · rename_i es hes
      exact ⟨es, hes, h⟩
    · cases h

theorem convK_ok {d : Option Tmp} {src dst : TypeId} {x : AV} (h : convK P bs d src dst x K = some r) : ∃ v, aConv P bs d src dst x = some v ∧ K v = some r := by
  unfold convK at h
  split at h
  · split at h
    · rename_i e he
      split at h
      · rename_i hu
        split at h
        · rename_i hs
          obtain ⟨h1, h2⟩ := bK_inv1 h
          obtain ⟨v, h3, h4⟩ := mr_inv h2
          exact ⟨v, by simp only [aConv, he, hu, hs, of_decide_eq_true h1, and_self, if_true]; exact h3, h4⟩
        · cases h
      · cases h
    · exact mr_inv h
  · exact mr_inv h
  · rename_i hn1 hn2
    split at h
    · rename_i e he
      split at h
      · rename_i hd
        split at h
        · rename_i hu
          obtain ⟨es, hel, h⟩ := elemsK_ok h
          obtain ⟨l, hl, hK⟩ := oK_inv h
          refine ⟨_, ?_, hK⟩
          · unfold aConv
            split
            · exact absurd rfl (hn2 _ _)
            · exact absurd rfl (hn1 _)
            · simp only [he, hd, hu, hel, hl]
        · cases h
      · exact mr_inv h
    · cases h

theorem boundK_ok {d : Nat} {o : Option AV} {K : Nat → Option R} (h : boundK d o K = some r) : ∃ n, boundOf d o = some n ∧ K n = some r := by
  unfold boundK at h
  split at h
  · exact ⟨_, rfl, h⟩
  · obtain ⟨h1, h2⟩ := bK_inv1 h
    exact ⟨_, by simp only [boundOf, if_pos (of_decide_eq_true h1)], h2⟩
  · cases h

theorem sliceK_ok {t : TypeId} {x : AV} {lo hi mx : Option AV} (h : sliceK P bs t x lo hi mx K = some r) : ∃ v, aSlice P bs t x lo hi mx = some v ∧ K (.val v []) = some r := by
  unfold sliceK at h
  split at h
  · obtain ⟨l, hl, h⟩ := boundK_ok h
    split at h
    · split at h
      · rename_i e ht
        split at h
        · rename_i hz
          obtain ⟨ha, h⟩ := bK_inv1 h
          obtain ⟨hh, hhi, h⟩ := boundK_ok h
          obtain ⟨mm, hmm, h⟩ := boundK_ok h
          obtain ⟨h1, h2⟩ := bK_inv1 h
          have h1 := of_decide_eq_true h1
          refine ⟨_, ?_, h2⟩
          simp only [aSlice, hl, ht]
          rw [if_pos ⟨ha, hz.1⟩]
          simp only [hhi, hmm]
          rw [if_pos ⟨h1.1, h1.2.1, h1.2.2, hz.2⟩]
        · cases h
      · cases h
    · split at h
      · rename_i e ht
        split at h
        · rename_i y hy
          split at h
          · rename_i hc
            obtain ⟨hh, hhi, h⟩ := boundK_ok h
            obtain ⟨mm, hmm, h⟩ := boundK_ok h
            obtain ⟨h1, h2⟩ := bK_inv1 h
            have h1 := of_decide_eq_true h1
            rcases bK_inv h2 with ⟨h3, h4⟩ | ⟨h3, h4⟩
            · refine ⟨_, ?_, h4⟩
              simp only [aSlice, hl, ht, hy]
              rw [if_pos ⟨hc.1, hc.2.1, hc.2.2.1⟩]
              simp only [hhi, hmm]
              rw [if_pos ⟨h1.1, h1.2.1, h1.2.2, hc.2.2.2⟩, if_pos (of_decide_eq_true h3)]
            · refine ⟨_, ?_, h4⟩
              simp only [aSlice, hl, ht, hy]
              rw [if_pos ⟨hc.1, hc.2.1, hc.2.2.1⟩]
              simp only [hhi, hmm]
              rw [if_pos ⟨h1.1, h1.2.1, h1.2.2, hc.2.2.2⟩, if_neg (of_decide_eq_false h3)]
          · cases h
        · cases h
      · cases h
    · cases h
  · obtain ⟨l, hl, h⟩ := boundK_ok h
    split at h
    · split at h
      · rename_i ht
        obtain ⟨hh, hhi, h⟩ := boundK_ok h
        obtain ⟨h1, h2⟩ := bK_inv1 h
        have h1 := of_decide_eq_true h1
        exact ⟨_, by simp only [aSlice, hl, ht, hhi, Option.isNone_none, h1, and_self, if_true], h2⟩
      · cases h
    · split at h
      · rename_i e ht
        split at h
        · rename_i hz
          obtain ⟨ha, h⟩ := bK_inv1 h
          obtain ⟨hh, hhi, h⟩ := boundK_ok h
          obtain ⟨h1, h2⟩ := bK_inv1 h
          have h1 := of_decide_eq_true h1
          refine ⟨_, ?_, h2⟩
          simp only [aSlice, hl, ht]
          rw [if_pos ⟨ha, hz⟩]
          simp only [hhi]
          rw [if_pos h1]
        · cases h
      · cases h
    · split at h
      · rename_i e ht
        split at h
        · rename_i y hy
          split at h
          · rename_i hc
            obtain ⟨hh, hhi, h⟩ := boundK_ok h
            obtain ⟨h1, h2⟩ := bK_inv1 h
            have h1 := of_decide_eq_true h1
            rcases bK_inv h2 with ⟨h3, h4⟩ | ⟨h3, h4⟩
            · refine ⟨_, ?_, h4⟩
              simp only [aSlice, hl, ht, hy]
              rw [if_pos hc]
              simp only [hhi]
              rw [if_pos h1, if_pos (of_decide_eq_true h3)]
            · refine ⟨_, ?_, h4⟩
              simp only [aSlice, hl, ht, hy]
              rw [if_pos hc]
              simp only [hhi]
              rw [if_pos h1, if_neg (of_decide_eq_false h3)]
          · cases h
        · cases h
      · cases h
    · cases h

theorem splitK_ok {n : Int} {K : Nat → Option R} : ∀ {len i : Nat}, splitK n len i K = some r → ∃ k : Nat, n = (k : Int) ∧ i ≤ k ∧ k < i + len ∧ K k = some r
  | 0, _, h => by cases h
  | len + 1, i, h => by
    unfold splitK at h
    rcases bK_inv h with ⟨h1, h2⟩ | ⟨h1, h2⟩
    · exact ⟨i, of_decide_eq_true h1, Nat.le_refl _, by omega, h2⟩
    · obtain ⟨k, a, b, c, d⟩ := splitK_ok h2
      exact ⟨k, a, by omega, by omega, d⟩

theorem idxAddrK_ok {t : TypeId} {x i : AV} (h : idxAddrK P bs t x i K = some r) : ∃ v, aIndexAddr P bs t x i = some v ∧ K (.val v []) = some r := by
  unfold idxAddrK at h
  split at h
  · rename_i e ht
    split at h
    · split at h
      · rename_i agg fs _ _
        split at h
        · rename_i hc
          obtain ⟨d, hd, hK⟩ := oK_inv h
          obtain ⟨h1, h2, h3⟩ := elemAt_ok hd
          refine ⟨_, ?_, hK⟩
          simp only [aIndexAddr, ht, h1, if_true, h2]
          rw [if_pos ⟨h3.trans hc.1, hc.2⟩]
        · cases h
      · exact mt_inv h
    · split at h
      · rename_i y hy
        split at h
        · rename_i hc
          obtain ⟨h1, h2⟩ := bK_inv1 h
          refine ⟨_, ?_, h2⟩
          simp only [aIndexAddr, ht]
          rw [if_pos (of_decide_eq_true h1)]
          simp only [hy]
          rw [if_pos hc]
        · cases h
      · cases h
    · cases h
  · rename_i len e ht
    split at h
    · split at h
      · rename_i hz
        split at h
        · split at h
          · rename_i y hy
            obtain ⟨k, rfl, _, h1, hK⟩ := splitK_ok h
            refine ⟨_, ?_, hK⟩
            simp only [aIndexAddr, ht]
            rw [if_pos ⟨by omega, by omega, hz⟩]
            simp [hy]
          · cases h
        · obtain ⟨k, rfl, _, h1, hK⟩ := splitK_ok h
          refine ⟨_, ?_, hK⟩
          simp only [aIndexAddr, ht]
          rw [if_pos ⟨by omega, by omega, hz⟩]
          simp
        · cases h
      · cases h
    · cases h
  · cases h

theorem fieldAddrK_ok {s : TypeId} {x : AV} {f : Nat} (h : fieldAddrK P bs s x f K = some r) : ∃ v, aFieldAddr P bs s x f = some v ∧ K (.val v []) = some r := by
  unfold fieldAddrK at h
  split at h
  · split at h
    · rename_i blk hb
      split at h
      · rename_i hk
        split at h
        · rename_i fs hfs
          split at h
          · rename_i fl hfl
            split at h
            · cases h
            · rename_i hz
              obtain ⟨h1, h2⟩ := bK_inv1 h
              refine ⟨_, ?_, h2⟩
              have hlt := of_decide_eq_true h1
              simp only [aFieldAddr, hfs, hfl]
              rw [if_neg hz]
              simp only [cellsAt, hb, hk, List.getElem?_eq_getElem hlt]
          · cases h
        · cases h
      · exact mt_inv h
    · cases h
  · exact mt_inv h

theorem idxK_ok {t : TypeId} {x i : AV} (h : idxK P t x i K = some r) : ∃ v, aIndex P t x i = some v ∧ K (.val v []) = some r := by
  unfold idxK at h
  split at h
  · split at h
    · rename_i len e ht
      split at h
      · obtain ⟨k, rfl, _, h1, h⟩ := splitK_ok h
        obtain ⟨v, hv, hK⟩ := mt_inv h
        refine ⟨v, ?_, hK⟩
        simp only [aIndex, ht]
        rw [if_pos (by omega), if_pos (by omega)]
        simpa using hv
      · cases h
    · rename_i ht
      split at h
      · obtain ⟨h1, h⟩ := bK_inv1 h
        obtain ⟨b, hb, hK⟩ := oK_inv h
        refine ⟨_, ?_, hK⟩
        simp only [aIndex, ht]
        rw [if_pos (of_decide_eq_true h1)]
        simp only [hb]
      · cases h
    · cases h
  · cases h

theorem lenK_ok {t : TypeId} {x : AV} (h : lenK P bs t x K = some r) : ∃ v, aLen P bs t x = some v ∧ K (.val v []) = some r := by
  unfold lenK at h
  split at h
  · split at h
    · rename_i e ht
      split at h
      · rename_i y hy
        split at h
        · rename_i hk
          obtain ⟨h1, h2⟩ := bK_inv1 h
          refine ⟨_, ?_, h2⟩
          simp only [aLen, ht, rowAt, hy]
          rw [if_pos ⟨hk, of_decide_eq_true h1⟩]
        · cases h
      · cases h
    · cases h
  · exact mt_inv h


theorem appGoK_ok {ip : Bool} {d : Option Tmp} {sT xT e : TypeId} {s x : AV} (hsT : P.underlying sT = some (.slice e)) (xs : List AV) (hxs : appended P bs xT x = some xs) (h : appGoK P ip bs d e s K xs = some r) : ∃ v, aAppend P bs d sT xT s x = some v ∧ K v = some r := by
  unfold appGoK at h
  split at h
  · rename_i hc
    obtain ⟨hall, h⟩ := bK_inv1 h
    unfold aAppend
    simp only [hsT, hxs]
    rw [if_pos ⟨hall, hc⟩]
    split at h
    · rename_i h
      rcases bK_inv h with ⟨h1, h⟩ | ⟨h1, h⟩
      · simp only [h1, if_true]
        exact ⟨_, rfl, h⟩
      · obtain ⟨h2, h⟩ := bK_inv1 h
        simp only [Bool.and_eq_true] at h2
        obtain ⟨v, h3, h4⟩ := mr_inv h
        refine ⟨v, ?_, h4⟩
        simp only [h1, Bool.false_eq_true, if_false]
        rw [if_pos ⟨h2.1.1, h2.1.2, h2.2⟩]
        exact h3
    · rename_i b v off len _
      split at h
      · rename_i blk hb
        split at h
        · rename_i hk
          obtain ⟨h1, h⟩ := bK_inv1 h
          have h1 := of_decide_eq_true h1
          simp only [hb]
          rw [if_pos ⟨hk.1, h1, hk.2⟩]
          rcases bK_inv h with ⟨h2, h⟩ | ⟨h2, h⟩
          · simp only [h2, if_true]
            exact ⟨_, rfl, h⟩
          · simp only [h2, Bool.false_eq_true, if_false]
            split at h
            · cases h
            · rename_i hfz
              rw [if_neg hfz]
              rcases bK_inv h with ⟨h3, h⟩ | ⟨h3, h⟩
              · simp only [Bool.and_eq_true, decide_eq_true_eq] at h3
                obtain ⟨⟨h4, h5⟩, h6⟩ := h3
                have h7 : ¬ off + len + xs.length ≤ blk.es.length := by
                  have : xs.length ≠ 0 := by
                    intro h0
                    rw [List.eq_nil_of_length_eq_zero h0] at h2
                    cases h2
                  omega
                rw [if_neg h7, if_pos ⟨h4, h6⟩]
                cases hd : keyOf d with
                | none => rw [hd] at h; cases h
                | some k => rw [hd] at h; exact ⟨_, rfl, h⟩
              · split at h
                · obtain ⟨h8, h⟩ := bK_inv1 h
                  rw [if_pos (of_decide_eq_true h8)]
                  exact ⟨_, rfl, h⟩
                · cases h
        · cases h
      · cases h
    · cases h
  · cases h

theorem appendK_ok {ip : Bool} {d : Option Tmp} {sT xT : TypeId} {s x : AV} (h : appendK P ip bs d sT xT s x K = some r) : ∃ v, aAppend P bs d sT xT s x = some v ∧ K v = some r := by
  unfold appendK at h
  split at h
  · rename_i e hsT
    split at h
    · rename_i hxT
      split at h
      · exact appGoK_ok hsT _ (by simp only [appended, hxT]) h
      · cases h
    · rename_i e' hxT
      split at h
      · cases h
      · rename_i hns
        obtain ⟨es, hes, h⟩ := elemsK_ok h
        refine appGoK_ok hsT es ?_ h
        unfold appended
        rw [hxT]
        simp only
        exact hes
    · cases h
  · cases h

theorem mkSliceK_ok {d : Option Tmp} {t : TypeId} {l c : AV} (h : mkSliceK P bs d t l c K = some r) : ∃ v, aMakeSlice P bs d t l c = some v ∧ K v = some r := by
  unfold mkSliceK at h
  split at h
  · rename_i e ht
    split at h
    · split at h
      · rename_i z hz
        split at h
        · rename_i hc
          obtain ⟨h1, h2⟩ := bK_inv1 h
          obtain ⟨v, h3, h4⟩ := mr_inv h2
          simp only [Bool.and_eq_true, decide_eq_true_eq] at h1
          refine ⟨v, ?_, h4⟩
          simp only [aMakeSlice, ht, hz]
          rw [if_pos ⟨h1.1.1, h1.1.2.1, h1.1.2.2, h1.2, hc⟩]
          exact h3
        · cases h
      · cases h
    · cases h
  · cases h

theorem nilChkK_ok {x : AV} (h : nilChkK bs x K = some r) : ∃ v, (match x with
    | .ptr b v i off => match cellsAt bs (.ptr b v i off) with
      | some _ => pv (some (.ptr b v i off))
      | none => none
    | .eptr e off => pv (some (.eptr e off))
    | .fn f fs cs => pv (some (.fn f fs cs))
    | _ => none) = some v ∧ K v = some r := by
  unfold nilChkK at h
  split at h
  · split at h
    · rename_i blk hb
      split at h
      · rename_i hk
        obtain ⟨h1, h2⟩ := bK_inv1 h
        refine ⟨_, ?_, h2⟩
        have hlt := of_decide_eq_true h1
        simp only [cellsAt, hb, hk, List.getElem?_eq_getElem hlt]
        rfl
      · rename_i hk
        split at h
        · rename_i hi
          refine ⟨_, ?_, h⟩
          simp only [cellsAt, hb, hk]
          rw [if_pos hi]
          rfl
        · cases h
      · cases h
    · cases h
  · exact ⟨_, rfl, h⟩
  · exact ⟨_, rfl, h⟩
  · cases h

theorem clearK_ok {t : TypeId} {x : AV} (h : clearK P bs t x K = some r) : ∃ v, aClear P bs t x = some v ∧ K v = some r := by
  unfold clearK at h
  unfold aClear
  split at h
  · rename_i e he
    simp only [he]
    split at h
    · exact ⟨_, rfl, h⟩
    · split at h
      · rename_i blk hb
        simp only [hb]
        split at h
        · rename_i z hz
          simp only [hz]
          split at h
          · rename_i hc
            obtain ⟨h1, h2⟩ := bK_inv1 h
            refine ⟨_, ?_, h2⟩
            rw [if_pos ⟨hc.1, hc.2.1, of_decide_eq_true h1, hc.2.2.1, hc.2.2.2⟩]
          · cases h
        · cases h
      · cases h
    · cases h
  · cases h

theorem copyK_ok {dT : TypeId} {s x : AV} (h : copyK P bs dT s x K = some r) : ∃ v, aCopy P bs dT s x = some v ∧ K v = some r := by
  unfold copyK at h
  unfold aCopy
  split at h
  · rename_i e he
    simp only [he]
    split at h
    · cases h
    · rename_i hns
      obtain ⟨xs, hxs, h⟩ := elemsK_ok h
      have hm : (match x with | .str _ => none | x => elemsOf bs x) = some xs := by
        cases x <;> first | exact hxs | exact absurd rfl (hns _)
      simp only [hxs]
      split at h
      · split at h
        · rename_i blk hb
          simp only [hb]
          split at h
          · rename_i hc
            obtain ⟨h1, h2⟩ := bK_inv1 h
            simp only [Bool.and_eq_true, decide_eq_true_eq] at h1
            refine ⟨_, ?_, h2⟩
            rw [if_pos ⟨hc.1, hc.2.1, h1.1, hc.2.2.1, hc.2.2.2, h1.2⟩]
          · cases h
        · cases h
      · cases h
  · cases h
end
end Go.Ab
/- The evaluator in its tests' order: an operation, a region, code, functions. -/
namespace Go.Ab
open Go

section
variable {R : Type} {P : Program}

theorem opK_ok {cfg : Cfg} {callF : CallF} {callK : CallK R} (hC : ∀ f args out (K : Ret → Option R) r, callK f args out K = some r → ∃ q, callF f args out = some q ∧ K q = some r)
    {f : FuncId} {st : St} {o : Oper} {K : Res → Option R} {r : R} (h : opK P cfg callF callK f st o K = some r) : ∃ v, aOp P cfg callF st o = some v ∧ K v = some r := by
  have pvv : ∀ {x : Option AV}, (∃ v, x = some v ∧ K (.val v []) = some r) → ∃ v, pv x = some v ∧ K v = some r := fun ⟨v, h1, h2⟩ => ⟨_, by rw [h1]; rfl, h2⟩
  obtain ⟨dst, op, type, pos, after, guard⟩ := o
  unfold opK at h
  split at h
  · rename_i c a b hop
    simp only at hop; subst hop
    simp only [aOp]
    split at h
    · rename_i t ht
      simp only [ht]
      rcases bK_inv h with ⟨h1, h2⟩ | ⟨h1, h2⟩
      · subst h1; exact ⟨_, rfl, h2⟩
      · subst h1; exact ⟨_, rfl, h2⟩
    · cases h
  · rename_i hop; simp only at hop; subst hop
    exact pvv (loadK_ok h)
  · rename_i hop; simp only at hop; subst hop
    obtain ⟨ds, h1, h2⟩ := storeK_ok h
    exact ⟨_, by simp only [aOp, h1], h2⟩
  · rename_i hop; simp only at hop; subst hop
    split at h
    · rename_i hq
      simp only [aOp]
      rw [if_pos hq]
      exact pvv (binK_ok h)
    · rename_i hq
      simp only [aOp]
      rw [if_neg hq]
      split at h
      · rename_i v hv
        exact pvv ⟨v, hv, h⟩
      · cases h
  · rename_i hop; simp only at hop; subst hop
    exact convK_ok h
  · rename_i hop; simp only at hop; subst hop
    exact mkSliceK_ok h
  · rename_i hop; simp only at hop; subst hop
    exact buildSliceK_ok h
  · rename_i hop; simp only at hop; subst hop
    exact pvv (sliceK_ok h)
  · rename_i hop; simp only at hop; subst hop
    exact pvv (fieldAddrK_ok h)
  · rename_i hop; simp only at hop; subst hop
    exact pvv (idxAddrK_ok h)
  · rename_i hop; simp only at hop; subst hop
    exact pvv (idxK_ok h)
  · rename_i hop; simp only at hop; subst hop
    split at h
    · rename_i g first captured hg
      simp only [aOp, hg]
      unfold callValK at h
      unfold aCall
      obtain ⟨⟨args2, ks, out⟩, hci, h⟩ := callInK_ok h
      obtain ⟨q, h1, h2⟩ := hC _ _ _ _ _ h
      simp only [hci, h1]
      split at h2
      · rename_i hl
        rw [hl]
        exact callOut1_ok (by simp [freeze]) h2
      · rename_i b l hl
        rw [hl]
        rcases bK_inv h2 with ⟨h3, h4⟩ | ⟨h3, h4⟩
        · exact callOut1_ok (by rw [h3]; rfl) h4
        · exact callOut1_ok (by rw [h3]; rfl) h4
    · cases h
  · rename_i hop; simp only at hop; subst hop
    split at h
    · rename_i t ts x xs h1 h2
      obtain ⟨v, h3, h4⟩ := lenK_ok h
      refine ⟨_, ?_, h4⟩
      simp only [aOp, h1, h2, aBuiltin, List.map_cons, h3]
    · cases h
  · rename_i hop; simp only at hop; subst hop
    split at h
    · rename_i sT xT s x h1 h2
      obtain ⟨v, h3, h4⟩ := appendK_ok h
      refine ⟨_, ?_, h4⟩
      simp only [aOp, h1, h2, aBuiltin, List.map_cons, List.map_nil, h3]
    · cases h
  · rename_i hop; simp only at hop; subst hop
    split at h
    · rename_i t ts x xs h1 h2
      obtain ⟨v, h3, h4⟩ := clearK_ok h
      refine ⟨_, ?_, h4⟩
      simp only [aOp, h1, h2, aBuiltin, List.map_cons, h3]
    · cases h
  · rename_i hop; simp only at hop; subst hop
    split at h
    · rename_i dT tt s x h1 h2
      obtain ⟨v, h3, h4⟩ := copyK_ok h
      refine ⟨_, ?_, h4⟩
      simp only [aOp, h1, h2, aBuiltin, List.map_cons, List.map_nil, h3]
    · cases h
  · rename_i hop; simp only at hop; subst hop
    exact nilChkK_ok h
  · exact mr_inv h

def setFr : List (Nat × AV) → Nat → AV → List (Nat × AV)
  | [], _, _ => []
  | (j, a) :: r, i, v => if j = i then (j, v) :: r else (j, a) :: setFr r i v

theorem setFr_same : ∀ {fr : List (Nat × AV)} {i : Nat} {v : AV}, look fr i = some v → setFr fr i v = fr
  | [], _, _, h => by cases h
  | (j, a) :: r, i, v, h => by
    unfold setFr
    unfold look at h
    split at h
    · rename_i hj; cases h; rw [if_pos hj]
    · rename_i hj; rw [if_neg hj, setFr_same h]

/-- A test's outcome is known from here on. -/
def St.know (st : St) (x : Operand) (b : Bool) : St :=
  match x with
  | .tmp t => { st with fr := setFr st.fr t (.bool b) }
  | _ => st

theorem know_same {st : St} {x : Operand} {b : Bool} (h : st.ev x = .bool b) : st.know x b = st := by
  unfold St.know
  split
  · rename_i t
    simp only [St.ev] at h
    cases hl : look st.fr t with
    | none => rw [hl] at h; cases h
    | some v => rw [hl] at h; cases h; rw [setFr_same hl]
  · rfl

def wantedK (ops : Array Oper) (st : St) (o : Oper) (X Y : St → Option R) : Option R :=
  match o.guard with
  | none => X st
  | some (j, want) => match ops[j]? with
    | some g => match g.dst with
      | some d => match (look st.fr d).getD .undef with
        | .bool b => if want then bK b (X (st.know (.tmp d) true)) (Y (st.know (.tmp d) false)) else bK b (Y (st.know (.tmp d) true)) (X (st.know (.tmp d) false))
        | .skp => Y st
        | _ => none
      | none => Y st
    | none => Y st

theorem wantedK_ok {ops : Array Oper} {st : St} {o : Oper} {X Y : St → Option R} {r : R} (h : wantedK ops st o X Y = some r) :
    (aWanted ops st o = some true ∧ X st = some r) ∨ (aWanted ops st o = some false ∧ Y st = some r) := by
  unfold wantedK at h
  unfold aWanted
  split at h
  · rename_i hg; rw [hg]; exact .inl ⟨rfl, h⟩
  · rename_i j want hg
    rw [hg]
    simp only
    split at h
    · rename_i g hgj
      simp only [hgj]
      split at h
      · rename_i d hd
        simp only [hd]
        split at h
        · rename_i b hb
          simp only [hb]
          have hev : st.ev (.tmp d) = .bool b := hb
          cases want with
          | true =>
            rw [if_pos rfl] at h
            rcases bK_inv h with ⟨h1, h2⟩ | ⟨h1, h2⟩
            · subst h1; rw [know_same hev] at h2; exact .inl ⟨rfl, h2⟩
            · subst h1; rw [know_same hev] at h2; exact .inr ⟨rfl, h2⟩
          | false =>
            rw [if_neg (by decide)] at h
            rcases bK_inv h with ⟨h1, h2⟩ | ⟨h1, h2⟩
            · subst h1; rw [know_same hev] at h2; exact .inr ⟨rfl, h2⟩
            · subst h1; rw [know_same hev] at h2; exact .inl ⟨rfl, h2⟩
        · rename_i hb; simp only [hb]; exact .inr ⟨trivial, h⟩
        · cases h
      · rename_i hd; simp only [hd]; exact .inr ⟨trivial, h⟩
    · rename_i hgj; simp only [hgj]; exact .inr ⟨trivial, h⟩

/-- A number, by cases. -/
def splV (m : Nat) (v : AV) (K : AV → Option R) : Option R :=
  match m with
  | 0 => K v
  | m + 1 => match v with
    | .int k n => splitK n (m + 1) 0 fun j => K (.int k (j : Int))
    | .bool b => bK b (K (.bool true)) (K (.bool false))
    | v => K v

theorem splV_ok {m : Nat} {v : AV} {K : AV → Option R} {r : R} (h : splV m v K = some r) : K v = some r := by
  unfold splV at h
  split at h
  · exact h
  · split at h
    · obtain ⟨j, rfl, _, _, h⟩ := splitK_ok h
      exact h
    · rcases bK_inv h with ⟨h1, h2⟩ | ⟨h1, h2⟩
      · rw [h1]; exact h2
      · rw [h1]; exact h2
    · exact h

def splOf (cfg : Cfg) (f : FuncId) (d : Option Tmp) : Nat := match d with
  | some t => cfg.spl f t
  | none => 0

/-- What it reads, where lists are not known. -/
def readsC (cfg : Cfg) (st : St) (o : Oper) (K : List Nat → Option R) : Option R :=
  match o.op with
  | .call { callee := .value f, args, .. } => match st.ev f with
    | .fn g first captured => mapK (argOfK st.bs (cfg.byref g)) (first ++ args.toList.map st.ev ++ captured) fun args1 =>
        K ((first ++ args.toList.map st.ev ++ captured).flatMap rowsA ++ closeR st.bs 3 (addNew [] (args1.flatMap refsA)) ++ ownK o.dst)
    | _ => K []
  | _ => K (readsK cfg st o)

theorem readsC_ok {cfg : Cfg} {st : St} {o : Oper} {K : List Nat → Option R} {r : R} (h : readsC cfg st o K = some r) : K (readsK cfg st o) = some r := by
  obtain ⟨dst, op, type, pos, after, guard⟩ := o
  unfold readsC at h
  split at h
  · rename_i f args _ hop
    simp only at hop; subst hop
    unfold readsK
    simp only
    split at h
    · rename_i g first captured hg
      obtain ⟨args1, h1, h2⟩ := mapK_ok argOfK_ok h
      simp only [hg, callReads, h1]
      exact h2
    · rename_i hn
      split
      · rename_i g first captured hg
        exact absurd hg (hn _ _ _)
      · exact h
  · exact h

def opsK (P : Program) (cfg : Cfg) (callF : CallF) (callK : CallK R) (f : FuncId) (n : Nat) (ops : Array Oper) (trk : Bool) : Nat → List Oper → St → Trk → (Ex → St → Trk → Option R) → Option R
  | _, [], st, t, K => K .norm st t
  | i, o :: rest, st, t, K =>
    wantedK ops st o (fun st => opK P cfg callF callK f st o fun
        | .val v ds => splV (splOf cfg f o.dst) v fun v => match st.put n o.dst v ds with
          | some st' => if trk then readsC cfg st o fun rd => opsK P cfg callF callK f n ops trk (i + 1) rest st' ((i, rd, keysOf ds) :: t) K else opsK P cfg callF callK f n ops trk (i + 1) rest st' t K
          | none => none
        | .dfr g args => match st.put n o.dst .skp [] with
          | some st' => opsK P cfg callF callK f n ops trk (i + 1) rest { st' with df := (g, args) :: st'.df } t K
          | none => none
        | .pan v ds => K (.pan v) { st with bs := ds ++ st.bs } t)
      (fun st => match st.put n o.dst .skp [] with
        | some st' => opsK P cfg callF callK f n ops trk (i + 1) rest st' t K
        | none => none)

theorem opsK_ok {cfg : Cfg} {callF : CallF} {callK : CallK R} (hC : ∀ f args out (K : Ret → Option R) r, callK f args out K = some r → ∃ q, callF f args out = some q ∧ K q = some r)
    {f : FuncId} {n : Nat} {ops : Array Oper} {trk : Bool} : ∀ {rest : List Oper} {i : Nat} {st : St} {t : Trk} {K : Ex → St → Trk → Option R} {r : R}, opsK P cfg callF callK f n ops trk i rest st t K = some r →
      ∃ e st' t', aOps P cfg callF n ops trk i rest st t = some (e, st', t') ∧ K e st' t' = some r
  | [], i, st, t, K, r, h => ⟨_, _, _, rfl, h⟩
  | o :: rest, i, st, t, K, r, h => by
    unfold opsK at h
    unfold aOps
    rcases wantedK_ok h with ⟨h1, h2⟩ | ⟨h1, h2⟩
    · simp only [h1]
      obtain ⟨v, h3, h4⟩ := opK_ok hC h2
      simp only [h3]
      split at h4
      · simp only
        have h4 := splV_ok h4
        split at h4
        · rename_i hp
          simp only [hp]
          split at h4
          · rename_i ht
            have h4 := readsC_ok h4
            rw [if_pos ht]
            exact opsK_ok hC h4
          · rename_i ht
            rw [if_neg ht]
            exact opsK_ok hC h4
        · cases h4
      · simp only
        split at h4
        · rename_i hp; simp only [hp]; exact opsK_ok hC h4
        · cases h4
      · exact ⟨_, _, _, rfl, h4⟩
    · simp only [h1]
      split at h2
      · rename_i hp; simp only [hp]; exact opsK_ok hC h2
      · cases h2

/-- The operations of a region whose order is drawn: to the end, or to the one that throws. -/
def opsRK (P : Program) (cfg : Cfg) (callF : CallF) (callK : CallK R) (f : FuncId) (n : Nat) (ops : Array Oper) (trk : Bool) (Kp : Nat → St → Option R) : Nat → List Oper → St → Trk → (St → Trk → Option R) → Option R
  | _, [], st, t, K => K st t
  | i, o :: rest, st, t, K =>
    wantedK ops st o (fun st => opK P cfg callF callK f st o fun
        | .val v ds => splV (splOf cfg f o.dst) v fun v => match st.put n o.dst v ds with
          | some st' => if trk then readsC cfg st o fun rd => opsRK P cfg callF callK f n ops trk Kp (i + 1) rest st' ((i, rd, keysOf ds) :: t) K else opsRK P cfg callF callK f n ops trk Kp (i + 1) rest st' t K
          | none => none
        | .dfr g args => match st.put n o.dst .skp [] with
          | some st' => opsRK P cfg callF callK f n ops trk (fun _ _ => none) (i + 1) rest { st' with df := (g, args) :: st'.df } t K
          | none => none
        | .pan _ _ => Kp i st)
      (fun st => match st.put n o.dst .skp [] with
        | some st' => opsRK P cfg callF callK f n ops trk Kp (i + 1) rest st' t K
        | none => none)

theorem opsRK_ok {cfg : Cfg} {callF : CallF} {callK : CallK R} (hC : ∀ f args out (K : Ret → Option R) r, callK f args out K = some r → ∃ q, callF f args out = some q ∧ K q = some r)
    {f : FuncId} {n : Nat} {ops : Array Oper} {trk : Bool} : ∀ {rest : List Oper} {Kp : Nat → St → Option R} {i : Nat} {st : St} {t : Trk} {K : St → Trk → Option R} {r : R}, opsRK P cfg callF callK f n ops trk Kp i rest st t K = some r →
      (∃ st' t', aOps P cfg callF n ops trk i rest st t = some (.norm, st', t') ∧ K st' t' = some r) ∨
      (∃ p stp v sp t', aOps P cfg callF n ops trk i rest st t = some (.pan v, sp, t') ∧ aOpsP P cfg callF n ops i rest st = some (p, stp) ∧ Kp p stp = some r)
  | [], Kp, i, st, t, K, r, h => .inl ⟨_, _, rfl, h⟩
  | o :: rest, Kp, i, st, t, K, r, h => by
    unfold opsRK at h
    unfold aOps aOpsP
    rcases wantedK_ok h with ⟨h1, h2⟩ | ⟨h1, h2⟩
    · simp only [h1]
      obtain ⟨v, h3, h4⟩ := opK_ok hC h2
      simp only [h3]
      split at h4
      · simp only
        have h4 := splV_ok h4
        split at h4
        · rename_i hp
          simp only [hp]
          split at h4
          · rename_i ht
            have h4 := readsC_ok h4
            rw [if_pos ht]
            exact opsRK_ok hC h4
          · rename_i ht
            rw [if_neg ht]
            exact opsRK_ok hC h4
        · cases h4
      · simp only
        split at h4
        · rename_i hp
          simp only [hp]
          rcases opsRK_ok hC h4 with h5 | ⟨p, stp, v, sp, t', _, _, h6⟩
          · exact .inl h5
          · cases h6
        · cases h4
      · exact .inr ⟨_, _, _, _, _, rfl, rfl, h4⟩
    · simp only [h1]
      split at h2
      · rename_i hp; simp only [hp]; exact opsRK_ok hC h2
      · cases h2

/-- Where one has thrown. -/
def panK (P : Program) (cfg : Cfg) (callF : CallF) (callK : CallK R) (f : FuncId) (dyn : List (Nat × Nat)) (ops : Array Oper) (st : St) (K : Ex → St → Option R) (p : Nat) (stp : St) : Option R :=
  match ops[p]? with
  | some o =>
    if panOk dyn ops p = true ∧ stp.df.length = st.df.length then
      wantedK ops { stp with fr := stp.fr.filter fun x => knownAt ops p x.1 } o (fun stq => opK P cfg callF callK f stq o fun
        | .pan v ds => K (.pan v) { stq with bs := ds ++ stq.bs }
        | _ => none) (fun _ => none)
    else none
  | none => none

theorem panK_ok {cfg : Cfg} {callF : CallF} {callK : CallK R} (hC : ∀ f args out (K : Ret → Option R) r, callK f args out K = some r → ∃ q, callF f args out = some q ∧ K q = some r)
    {f n : Nat} {dyn : List (Nat × Nat)} {ops : Array Oper} {st : St} {K : Ex → St → Option R} {p : Nat} {stp : St} {r : R} (h : panK P cfg callF callK f dyn ops st K p stp = some r) (hp : aOpsP P cfg callF n ops 0 ops.toList st = some (p, stp)) :
    ∃ e st', aRegP P cfg callF dyn n ops st = some (e, st') ∧ K e st' = some r := by
  unfold panK at h
  unfold aRegP
  simp only [hp]
  split at h
  · rename_i o ho
    simp only [ho]
    split at h
    · rename_i hc
      rw [if_pos hc]
      rcases wantedK_ok h with ⟨h1, h2⟩ | ⟨_, h2⟩
      · simp only [h1]
        obtain ⟨v, h3, h4⟩ := opK_ok hC h2
        simp only [h3]
        split at h4
        · exact ⟨_, _, rfl, h4⟩
        · cases h4
      · cases h2
    · cases h
  · cases h

def regionK (P : Program) (cfg : Cfg) (callF : CallF) (callK : CallK R) (f : FuncId) (n : Nat) (id : Nat) (ops : Array Oper) (draw : Bool) (st : St) (K : Ex → St → Option R) : Option R :=
  if draw then
    match cfg.dyn f id with
    | [] => opsRK P cfg callF callK f n ops false (panK P cfg callF callK f [] ops st K) 0 ops.toList st [] fun st' _ => if st'.df.length = st.df.length then K .norm st' else none
    | p :: ps => opsRK P cfg callF callK f n ops true (panK P cfg callF callK f (p :: ps) ops st K) 0 ops.toList st [] fun st' t => if dynOk t (p :: ps) = true ∧ st'.df.length = st.df.length then K .norm st' else none
  else opsK P cfg callF callK f n ops false 0 ops.toList st [] fun e st' _ => K e st'

theorem regionK_ok {cfg : Cfg} {callF : CallF} {callK : CallK R} (hC : ∀ f args out (K : Ret → Option R) r, callK f args out K = some r → ∃ q, callF f args out = some q ∧ K q = some r)
    {f n id : Nat} {ops : Array Oper} {draw : Bool} {st : St} {K : Ex → St → Option R} {r : R} (h : regionK P cfg callF callK f n id ops draw st K = some r) :
    ∃ e st', aRegion P cfg callF f n id ops draw st = some (e, st') ∧ K e st' = some r := by
  unfold regionK at h
  unfold aRegion
  split at h
  · rename_i hd
    rw [if_pos hd]
    split at h
    · rename_i hdy
      simp only [hdy]
      rcases opsRK_ok hC h with ⟨st', t', h1, h2⟩ | ⟨p, stp, v, sp, t', h1, h2, h3⟩
      · split at h2
        · rename_i hl; simp only [h1, hl, if_true]; exact ⟨_, _, rfl, h2⟩
        · cases h2
      · simp only [h1]
        exact panK_ok hC h3 h2
    · rename_i hdy
      simp only [hdy]
      rcases opsRK_ok hC h with ⟨st', t', h1, h2⟩ | ⟨p, stp, v, sp, t', h1, h2, h3⟩
      · split at h2
        · rename_i hl; simp only [h1]; rw [if_pos hl]; exact ⟨_, _, rfl, h2⟩
        · cases h2
      · simp only [h1]
        exact panK_ok hC h3 h2
  · rename_i hd
    rw [if_neg hd]
    obtain ⟨e, st', t', h1, h2⟩ := opsK_ok hC h
    simp only [h1]
    exact ⟨_, _, rfl, h2⟩

/-- What is told of a loop. -/
structure LP where
  D : Type
  dec : St → Option D
  out : D → Alt (Ex × St)

abbrev LPs := FuncId → Nat → Option LP

def loopK (res : St → Option St) (body : St → (Ex → St → Option R) → Option R) : Nat → St → (Ex → St → Option R) → Option R
  | 0, _, _ => none
  | k + 1, st, K =>
    match res st with
    | none => none
    | some st => body st fun e st' => match e with
      | .norm => loopK res body k st' K
      | e => K e st'

theorem loopK_ok {res : St → Option St} {body : St → (Ex → St → Option R) → Option R} {bodyF : St → Option (Ex × St)} (hb : ∀ st K r, body st K = some r → ∃ e st', bodyF st = some (e, st') ∧ K e st' = some r) :
    ∀ {k : Nat} {st : St} {K : Ex → St → Option R} {r : R}, loopK res body k st K = some r → ∃ e st', aLoop res bodyF k st = some (e, st') ∧ K e st' = some r
  | 0, _, _, _, h => by cases h
  | k + 1, st, K, r, h => by
    unfold loopK at h
    unfold aLoop
    split at h
    · cases h
    · rename_i st1 hr
      simp only [hr]
      obtain ⟨e, st', h1, h2⟩ := hb _ _ _ h
      simp only [h1]
      cases e with
      | norm => exact loopK_ok hb h2
      | exit j => exact ⟨_, _, rfl, h2⟩
      | ret => exact ⟨_, _, rfl, h2⟩
      | pan v => exact ⟨_, _, rfl, h2⟩

def exitK (res : St → Option St) (e : Ex) (st : St) (K : Ex → St → Option R) : Option R :=
  match e with
  | .pan v => K (.pan v) st
  | e => match res st with
    | some s => K e s
    | none => none

theorem exitK_ok {res : St → Option St} {e : Ex} {st : St} {K : Ex → St → Option R} {r : R} (h : exitK res e st K = some r) : ∃ e' st', exitX res (some (e, st)) = some (e', st') ∧ K e' st' = some r := by
  unfold exitK at h
  cases e with
  | pan v => exact ⟨_, _, rfl, h⟩
  | norm =>
    simp only at h
    cases hr : res st with
    | none => rw [hr] at h; cases h
    | some s => rw [hr] at h; exact ⟨_, s, by simp only [exitX, hr], h⟩
  | ret =>
    simp only at h
    cases hr : res st with
    | none => rw [hr] at h; cases h
    | some s => rw [hr] at h; exact ⟨_, s, by simp only [exitX, hr], h⟩
  | exit id =>
    simp only at h
    cases hr : res st with
    | none => rw [hr] at h; cases h
    | some s => rw [hr] at h; exact ⟨_, s, by simp only [exitX, hr], h⟩

def codeK (P : Program) (cfg : Cfg) (callF : CallF) (callK : CallK R) (lp : LPs) (f : FuncId) (n : Nat) : Nat → Code → St → (Ex → St → Option R) → Option R
  | _, .skip, st, K => K .norm st
  | _, .region id ops draw, st, K => regionK P cfg callF callK f n id ops draw st K
  | c, .seq a b, st, K => codeK P cfg callF callK lp f n c a st fun e st' => match e with
    | .norm => codeK P cfg callF callK lp f n c b st' K
    | e => K e st'
  | c, .cond x a b, st, K => match st.ev x with
    | .bool t => bK t (codeK P cfg callF callK lp f n c a (st.know x true) K) (codeK P cfg callF callK lp f n c b (st.know x false) K)
    | _ => none
  | _, .block id b, st, K => codeK P cfg callF callK lp f n id b st fun e st' => match e with
    | .exit j => if j = id then K .norm st' else K (.exit j) st'
    | e => K e st'
  | c, .loop b, st, K => match lp f c with
    | some L => match restrict (cfg.keep f c) st with
      | some st1 => oK (L.dec st1) fun d => altK (L.out d) fun r => K r.1 r.2
      | none => none
    | none => loopK (restrict (cfg.keep f c)) (codeK P cfg callF callK lp f n c b) rounds st fun e st' => exitK (restrict (cfg.keepX f c)) e st' K
  | _, .exit id, st, K => K (.exit id) st
  | _, .ret, st, K => K .ret st
  | _, .label _, st, K => K .norm st
  | _, _, _, _ => none

/-- Code within code, and the block that it stands in. -/
inductive At : Nat → Code → Nat → Code → Prop
  | here (c : Nat) (b : Code) : At c b c b
  | seqL {c c' : Nat} {a b x : Code} (h : At c a c' x) : At c (.seq a b) c' x
  | seqR {c c' : Nat} {a b x : Code} (h : At c b c' x) : At c (.seq a b) c' x
  | condL {c c' : Nat} {o : Operand} {a b x : Code} (h : At c a c' x) : At c (.cond o a b) c' x
  | condR {c c' : Nat} {o : Operand} {a b x : Code} (h : At c b c' x) : At c (.cond o a b) c' x
  | block {c c' id : Nat} {b x : Code} (h : At id b c' x) : At c (.block id b) c' x
  | loop {c c' : Nat} {b x : Code} (h : At c b c' x) : At c (.loop b) c' x

/-- All that is told of loops is so. -/
def LoopsOk (P : Program) (cfg : Cfg) (callF : CallF) (lp : LPs) (f n : Nat) (c0 : Nat) (code : Code) : Prop :=
  ∀ c b L, At c0 code c (.loop b) → lp f c = some L → ∀ st st1 d, restrict (cfg.keep f c) st = some st1 → L.dec st1 = some d → exitX (restrict (cfg.keepX f c)) (aLoop (restrict (cfg.keep f c)) (aCode P cfg callF f n c b) rounds st) = some (L.out d).val

theorem codeK_ok {cfg : Cfg} {callF : CallF} {callK : CallK R} (hC : ∀ f args out (K : Ret → Option R) r, callK f args out K = some r → ∃ q, callF f args out = some q ∧ K q = some r)
    {lp : LPs} {f n : Nat} : ∀ {code : Code} {c : Nat} (_ : LoopsOk P cfg callF lp f n c code) {st : St} {K : Ex → St → Option R} {r : R}, codeK P cfg callF callK lp f n c code st K = some r →
      ∃ e st', aCode P cfg callF f n c code st = some (e, st') ∧ K e st' = some r
  | .skip, c, hl, st, K, r, h => ⟨_, _, rfl, h⟩
  | .region id ops draw, c, hl, st, K, r, h => by
    unfold aCode
    unfold codeK at h
    exact regionK_ok hC h
  | .seq a b, c, hl, st, K, r, h => by
    unfold codeK at h
    obtain ⟨e, st', h1, h2⟩ := codeK_ok hC (fun c' b' L ha => hl c' b' L (.seqL ha)) h
    unfold aCode
    simp only [h1]
    cases e with
    | norm => exact codeK_ok hC (fun c' b' L ha => hl c' b' L (.seqR ha)) h2
    | exit j => exact ⟨_, _, rfl, h2⟩
    | ret => exact ⟨_, _, rfl, h2⟩
    | pan v => exact ⟨_, _, rfl, h2⟩
  | .cond x a b, c, hl, st, K, r, h => by
    unfold codeK at h
    unfold aCode
    split at h
    · rename_i t ht
      simp only [ht]
      rcases bK_inv h with ⟨h1, h2⟩ | ⟨h1, h2⟩
      · subst h1
        rw [know_same ht] at h2
        exact codeK_ok hC (fun c' b' L ha => hl c' b' L (.condL ha)) h2
      · subst h1
        rw [know_same ht] at h2
        exact codeK_ok hC (fun c' b' L ha => hl c' b' L (.condR ha)) h2
    · cases h
  | .block id b, c, hl, st, K, r, h => by
    unfold codeK at h
    obtain ⟨e, st', h1, h2⟩ := codeK_ok hC (fun c' b' L ha => hl c' b' L (.block ha)) h
    unfold aCode
    simp only [h1]
    cases e with
    | norm => exact ⟨_, _, rfl, h2⟩
    | exit j =>
      simp only at h2 ⊢
      split at h2
      · rename_i hj; rw [if_pos hj]; exact ⟨_, _, rfl, h2⟩
      · rename_i hj; rw [if_neg hj]; exact ⟨_, _, rfl, h2⟩
    | ret => exact ⟨_, _, rfl, h2⟩
    | pan v => exact ⟨_, _, rfl, h2⟩
  | .loop b, c, hl, st, K, r, h => by
    unfold codeK at h
    unfold aCode
    split at h
    · rename_i L hL
      split at h
      · rename_i st1 hr
        obtain ⟨d, h1, h2⟩ := oK_inv h
        exact ⟨_, _, hl _ _ L (.here _ _) hL _ _ d hr h1, altK_ok h2⟩
      · cases h
    · obtain ⟨e, st', h1, h2⟩ := loopK_ok (fun st K r h => codeK_ok hC (fun c' b' L ha => hl c' b' L (.loop ha)) h) h
      rw [h1]
      exact exitK_ok h2
  | .exit id, c, hl, st, K, r, h => ⟨_, _, rfl, h⟩
  | .ret, c, hl, st, K, r, h => ⟨_, _, rfl, h⟩
  | .label _, c, hl, st, K, r, h => ⟨_, _, rfl, h⟩
  | .rangeFunc .., _, _, _, _, _, h => by cases h
  | .goto .., _, _, _, _, _, h => by cases h
  | .scope _, _, _, _, _, _, h => by cases h
  | .refuse _, _, _, _, _, _, h => by cases h
end
end Go.Ab
/- The evaluator in its tests' order: functions; what is told of functions, as a table. -/
namespace Go.Ab
open Go

section
variable {R : Type} {P : Program}

theorem callValK_ok {cfg : Cfg} {callF : CallF} {callK : CallK R} (hC : ∀ f args out (K : Ret → Option R) r, callK f args out K = some r → ∃ q, callF f args out = some q ∧ K q = some r)
    {bs : List (Nat × Blk)} {d : Option Tmp} {f : FuncId} {args : List AV} {K : Res → Option R} {r : R} (h : callValK cfg callK bs d f args K = some r) : ∃ v, aCall cfg callF bs d f args = some v ∧ K v = some r := by
  unfold callValK at h
  unfold aCall
  obtain ⟨⟨args2, ks, out⟩, hci, h⟩ := callInK_ok h
  obtain ⟨q, h1, h2⟩ := hC _ _ _ _ _ h
  simp only [hci, h1]
  split at h2
  · rename_i hl
    rw [hl]
    exact callOut1_ok (by simp [freeze]) h2
  · rename_i b l hl
    rw [hl]
    rcases bK_inv h2 with ⟨h3, h4⟩ | ⟨h3, h4⟩
    · exact callOut1_ok (by rw [h3]; rfl) h4
    · exact callOut1_ok (by rw [h3]; rfl) h4

/-- The operations of a call that was put off. -/
def opsDK (P : Program) (cfg : Cfg) (callF : CallF) (callK : CallK R) (n : Nat) (ops : Array Oper) : List Oper → St → Option AV → Bool → (St → Option AV → Bool → Option R) → Option R
  | [], st, r, b, K => K st r b
  | o :: rest, st, r, b, K =>
    wantedK ops st o (fun st =>
      match o.op with
      | .call { callee := .builtin .recover, .. } =>
        match r with
        | some v => if v.noSlcC = true then match st.put n o.dst v [] with
            | some st' => opsDK P cfg callF callK n ops rest st' none true K
            | none => none
          else none
        | none => match st.put n o.dst .inil [] with
          | some st' => opsDK P cfg callF callK n ops rest st' none b K
          | none => none
      | _ => opK P cfg callF callK 0 st o fun
        | .val v ds => match st.put n o.dst v ds with
          | some st' => opsDK P cfg callF callK n ops rest st' r b K
          | none => none
        | _ => none)
      (fun st => match st.put n o.dst .skp [] with
        | some st' => opsDK P cfg callF callK n ops rest st' r b K
        | none => none)

theorem opsDK_ok {cfg : Cfg} {callF : CallF} {callK : CallK R} (hC : ∀ f args out (K : Ret → Option R) r, callK f args out K = some r → ∃ q, callF f args out = some q ∧ K q = some r)
    {n : Nat} {ops : Array Oper} : ∀ {rest : List Oper} {st : St} {r : Option AV} {b : Bool} {K : St → Option AV → Bool → Option R} {y : R}, opsDK P cfg callF callK n ops rest st r b K = some y →
      ∃ st' r' b', aOpsD P cfg callF n ops rest st r b = some (st', r', b') ∧ K st' r' b' = some y
  | [], st, r, b, K, y, h => ⟨_, _, _, rfl, h⟩
  | o :: rest, st, r, b, K, y, h => by
    unfold opsDK at h
    unfold aOpsD
    rcases wantedK_ok h with ⟨h1, h2⟩ | ⟨h1, h2⟩
    · simp only [h1]
      split at h2
      · rename_i hop
        simp only [hop]
        split at h2
        · split at h2
          · rename_i hv
            simp only
            rw [if_pos hv]
            split at h2
            · rename_i hp; simp only [hp]; exact opsDK_ok hC h2
            · cases h2
          · cases h2
        · split at h2
          · rename_i hp; simp only [hp]; exact opsDK_ok hC h2
          · cases h2
      · rename_i hop
        obtain ⟨v, h3, h4⟩ := opK_ok hC h2
        split
        · rename_i hop2; exact absurd hop2 (hop _ _)
        · simp only [h3]
          split at h4
          · simp only
            split at h4
            · rename_i hp; simp only [hp]; exact opsDK_ok hC h4
            · cases h4
          · cases h4
    · simp only [h1]
      split at h2
      · rename_i hp; simp only [hp]; exact opsDK_ok hC h2
      · cases h2

/-- Its code. -/
def codeDK (P : Program) (cfg : Cfg) (callF : CallF) (callK : CallK R) (f : FuncId) (n : Nat) : Code → St → Option AV → Bool → (Bool → St → Option AV → Bool → Option R) → Option R
  | .skip, st, r, b, K => K false st r b
  | .region _ ops false, st, r, b, K => opsDK P cfg callF callK n ops ops.toList st r b fun st r b => K false st r b
  | .region id ops true, st, r, b, K => regionK P cfg callF callK f n id ops true st fun e st' => match e with
    | .norm => K false st' r b
    | _ => none
  | .seq x y, st, r, b, K => codeDK P cfg callF callK f n x st r b fun e st' r' b' => match e with
    | false => codeDK P cfg callF callK f n y st' r' b' K
    | true => K true st' r' b'
  | .cond c x y, st, r, b, K => match st.ev c with
    | .bool t => bK t (codeDK P cfg callF callK f n x st r b K) (codeDK P cfg callF callK f n y st r b K)
    | _ => none
  | .ret, st, r, b, K => K true st r b
  | _, _, _, _, _ => none

theorem codeDK_ok {cfg : Cfg} {callF : CallF} {callK : CallK R} (hC : ∀ f args out (K : Ret → Option R) r, callK f args out K = some r → ∃ q, callF f args out = some q ∧ K q = some r)
    {f n : Nat} : ∀ {c : Code} {st : St} {r : Option AV} {b : Bool} {K : Bool → St → Option AV → Bool → Option R} {y : R}, codeDK P cfg callF callK f n c st r b K = some y →
      ∃ e st' r' b', aCodeD P cfg callF f n c st r b = some (e, st', r', b') ∧ K e st' r' b' = some y := by
  intro c
  induction c with
  | skip => intro st r b K y h; exact ⟨_, _, _, _, rfl, h⟩
  | ret => intro st r b K y h; exact ⟨_, _, _, _, rfl, h⟩
  | region id ops draw =>
    intro st r b K y h
    cases draw with
    | false =>
      obtain ⟨st', r', b', h1, h2⟩ := opsDK_ok hC h
      exact ⟨_, _, _, _, by simp only [aCodeD, h1], h2⟩
    | true =>
      obtain ⟨e, st', h1, h2⟩ := regionK_ok hC h
      split at h2
      · exact ⟨_, _, _, _, by simp only [aCodeD, h1], h2⟩
      · cases h2
  | seq x z hx hz =>
    intro st r b K y h
    obtain ⟨e, st', r', b', h1, h2⟩ := hx h
    cases e with
    | false =>
      obtain ⟨e2, st2, r2, b2, h3, h4⟩ := hz h2
      exact ⟨_, _, _, _, by simp only [aCodeD, h1, h3], h4⟩
    | true => exact ⟨_, _, _, _, by simp only [aCodeD, h1], h2⟩
  | cond c x z hx hz =>
    intro st r b K y h
    unfold codeDK at h
    split at h
    · rename_i t ht
      rcases bK_inv h with ⟨h1, h2⟩ | ⟨h1, h2⟩
      · obtain ⟨e, st', r', b', h3, h4⟩ := hx h2
        exact ⟨_, _, _, _, by simp only [aCodeD, ht, h1, if_true]; exact h3, h4⟩
      · obtain ⟨e, st', r', b', h3, h4⟩ := hz h2
        exact ⟨_, _, _, _, by simp only [aCodeD, ht, h1, Bool.false_eq_true, if_false]; exact h3, h4⟩
    · cases h
  | _ => intros; rename_i h; simp [codeDK] at h

def funcDK (P : Program) (cfg : Cfg) (callF : CallF) (callK : CallK R) (r : Option AV) (f : FuncId) (args : List AV) (out : List Blk) (K : Ret → Option R) : Option R :=
  if cfg.isF f then
    match P.funcs[f]? with
    | some fn => match fn.body with
      | some c => if args.length ≤ fn.ntmps ∧ fn.results.size = 0 then
          codeDK P cfg callF callK f fn.ntmps c { fr := paramsFr 0 args, bs := outerSt out, df := [] } r false fun _ st _ b =>
            if st.df.isEmpty = true then match leave st out.length false (.bool b) with
              | some q => K q
              | none => none
            else none
        else none
      | none => none
    | none => none
  else none

theorem funcDK_ok {cfg : Cfg} {callF : CallF} {callK : CallK R} (hC : ∀ f args out (K : Ret → Option R) r, callK f args out K = some r → ∃ q, callF f args out = some q ∧ K q = some r)
    (x : Option AV) : ∀ f args out (K : Ret → Option R) r, funcDK P cfg callF callK x f args out K = some r → ∃ q, aFuncD P cfg callF x f args out = some q ∧ K q = some r := by
  intro f args out K r h
  unfold funcDK at h
  unfold aFuncD
  split at h
  · rename_i h1
    rw [if_pos h1]
    split at h
    · rename_i fn hfn
      simp only [hfn]
      split at h
      · rename_i c hc
        simp only [hc]
        split at h
        · rename_i h2
          rw [if_pos h2]
          obtain ⟨e, st, r', b, h3, h4⟩ := codeDK_ok hC h
          simp only [h3]
          split at h4
          · rename_i h5
            rw [if_pos h5]
            split at h4
            · rename_i q hq
              exact ⟨_, hq, h4⟩
            · cases h4
          · cases h4
        · cases h
      · cases h
    · cases h
  · cases h

def unwindK (P : Program) (cfg : Cfg) (callF : CallF) (callK : CallK R) : List (AV × List AV) → Option AV → St → (Option AV → St → Option R) → Option R
  | [], r, st, K => K r st
  | (.fn g first captured, args) :: ds, r, st, K =>
    callValK cfg (funcDK P cfg callF callK r) st.bs none g (first ++ args ++ captured) fun
    | .val (.bool true) d => unwindK P cfg callF callK ds none { st with bs := d ++ st.bs } K
    | .val (.bool false) d => unwindK P cfg callF callK ds r { st with bs := d ++ st.bs } K
    | _ => none
  | _, _, _, _ => none

theorem unwindK_ok {cfg : Cfg} {callF : CallF} {callK : CallK R} (hC : ∀ f args out (K : Ret → Option R) r, callK f args out K = some r → ∃ q, callF f args out = some q ∧ K q = some r) :
    ∀ {ds : List (AV × List AV)} {r : Option AV} {st : St} {K : Option AV → St → Option R} {y : R}, unwindK P cfg callF callK ds r st K = some y → ∃ r' st', unwindA P cfg callF ds r st = some (r', st') ∧ K r' st' = some y
  | [], r, st, K, y, h => ⟨_, _, rfl, h⟩
  | (.fn g first captured, args) :: ds, r, st, K, y, h => by
    rw [unwindK] at h
    obtain ⟨v, h1, h2⟩ := callValK_ok (funcDK_ok hC r) h
    rw [unwindA]
    simp only [h1]
    split at h2
    · exact unwindK_ok hC h2
    · exact unwindK_ok hC h2
    · cases h2
  | (.bool _, _) :: _, _, _, _, _, h => by simp [unwindK] at h
  | (.int _ _, _) :: _, _, _, _, _, h => by simp [unwindK] at h
  | (.str _, _) :: _, _, _, _, _, h => by simp [unwindK] at h
  | (.agg _, _) :: _, _, _, _, _, h => by simp [unwindK] at h
  | (.tup _, _) :: _, _, _, _, _, h => by simp [unwindK] at h
  | (.slc _ _, _) :: _, _, _, _, _, h => by simp [unwindK] at h
  | (.sref _ _ _ _, _) :: _, _, _, _, _, h => by simp [unwindK] at h
  | (.ptr _ _ _ _, _) :: _, _, _, _, _, h => by simp [unwindK] at h
  | (.eptr _ _, _) :: _, _, _, _, _, h => by simp [unwindK] at h
  | (.pnil, _) :: _, _, _, _, _, h => by simp [unwindK] at h
  | (.fnil, _) :: _, _, _, _, _, h => by simp [unwindK] at h
  | (.iface _ _, _) :: _, _, _, _, _, h => by simp [unwindK] at h
  | (.inil, _) :: _, _, _, _, _, h => by simp [unwindK] at h
  | (.skp, _) :: _, _, _, _, _, h => by simp [unwindK] at h
  | (.undef, _) :: _, _, _, _, _, h => by simp [unwindK] at h

def finishK (P : Program) (cfg : Cfg) (callF : CallF) (callK : CallK R) (fn : Func) (m : Nat) (ds : List (AV × List AV)) (r : Option AV) (st : St) (K : Ret → Option R) : Option R :=
  unwindK P cfg callF callK ds r st fun r st' => match r with
    | none => match resultsOf P st' fn.results.toList with
      | some v => match leave st' m false v with
        | some q => K q
        | none => none
      | none => none
    | some v => match leave st' m true v with
      | some q => K q
      | none => none

theorem finishK_ok {cfg : Cfg} {callF : CallF} {callK : CallK R} (hC : ∀ f args out (K : Ret → Option R) r, callK f args out K = some r → ∃ q, callF f args out = some q ∧ K q = some r)
    {fn : Func} {m : Nat} {ds : List (AV × List AV)} {x : Option AV} {st : St} {K : Ret → Option R} {r : R} (h : finishK P cfg callF callK fn m ds x st K = some r) :
    ∃ q, finish P cfg callF fn m ds x st = some q ∧ K q = some r := by
  obtain ⟨r', st', h1, h2⟩ := unwindK_ok hC h
  unfold finish
  simp only [h1]
  split at h2
  · split at h2
    · rename_i hv
      simp only [hv]
      split at h2
      · rename_i q hq; exact ⟨_, hq, h2⟩
      · cases h2
    · cases h2
  · split at h2
    · rename_i q hq; exact ⟨_, hq, h2⟩
    · cases h2

def funcK (P : Program) (cfg : Cfg) (callF : CallF) (callK : CallK R) (lp : LPs) (f : FuncId) (args : List AV) (out : List Blk) (K : Ret → Option R) : Option R :=
  if cfg.isF f then
    match P.funcs[f]? with
    | some fn => match fn.body with
      | some c => if args.length ≤ fn.ntmps then
          codeK P cfg callF callK lp f fn.ntmps 0 c { fr := paramsFr 0 args, bs := outerSt out, df := [] } fun e st => match e with
            | .pan v => finishK P cfg callF callK fn out.length st.df (some v) st K
            | .exit _ => none
            | _ => finishK P cfg callF callK fn out.length st.df none st K
        else none
      | none => none
    | none => none
  else none

def FLoopsOk (P : Program) (cfg : Cfg) (callF : CallF) (lp : LPs) (f : FuncId) : Prop := ∀ fn c, P.funcs[f]? = some fn → fn.body = some c → LoopsOk P cfg callF lp f fn.ntmps 0 c

theorem fLoops_none {cfg : Cfg} {callF : CallF} {f : FuncId} : FLoopsOk P cfg callF (fun _ _ => none) f := fun _ _ _ _ _ _ _ _ h => by cases h

theorem kr_inv {x : Option Ret} {K : Ret → Option R} {r : R} (h : (match x with | some v => K v | none => none) = some r) : ∃ v, x = some v ∧ K v = some r := by
  cases x with
  | none => cases h
  | some v => exact ⟨v, rfl, h⟩

theorem funcK_ok {cfg : Cfg} {callF : CallF} {callK : CallK R} (hC : ∀ f args out (K : Ret → Option R) r, callK f args out K = some r → ∃ q, callF f args out = some q ∧ K q = some r)
    {lp : LPs} {f : FuncId} (hl : FLoopsOk P cfg callF lp f) {args : List AV} {out : List Blk} {K : Ret → Option R} {r : R} (h : funcK P cfg callF callK lp f args out K = some r) :
    ∃ q, aFunc P cfg callF f args out = some q ∧ K q = some r := by
  unfold funcK at h
  unfold aFunc
  split at h
  · rename_i h1
    rw [if_pos h1]
    split at h
    · rename_i fn hfn
      simp only [hfn]
      split at h
      · rename_i c hc
        simp only [hc]
        split at h
        · rename_i h2
          rw [if_pos h2]
          obtain ⟨e, st, h3, h4⟩ := codeK_ok hC (hl fn c hfn hc) h
          simp only [h3]
          cases e with
          | norm => exact finishK_ok hC h4
          | ret => exact finishK_ok hC h4
          | exit j => cases h4
          | pan v => exact finishK_ok hC h4
        · cases h
      · cases h
    · cases h
  · cases h

abbrev PKs := FuncId → Option PK

/-- The evaluator's setting with all that is told. -/
def Cfg.with (cfg : Cfg) (pk : PKs) : Cfg := { cfg with prim := fun f => match pk f with
  | some p => some p.G
  | none => none }

def evK (P : Program) (cfg : Cfg) (pk : PKs) : Nat → CallK R
  | 0 => fun _ _ _ _ => none
  | k + 1 => fun f args out K =>
    match pk f with
    | some p => oK (p.dec args out) fun d => altK (p.out d) K
    | none => funcK P (cfg.with pk) (evF P (cfg.with pk) k) (evK P cfg pk k) (fun _ _ => none) f args out K

theorem evK_ok {cfg : Cfg} {pk : PKs} : ∀ k f args out (K : Ret → Option R) r, evK P cfg pk k f args out K = some r → ∃ q, evF P (cfg.with pk) k f args out = some q ∧ K q = some r
  | 0, _, _, _, _, _, h => by cases h
  | k + 1, f, args, out, K, r, h => by
    unfold evK at h
    simp only [evF]
    split at h
    · rename_i p hp
      have : (cfg.with pk).prim f = some p.G := by simp only [Cfg.with, hp]
      simp only [this]
      obtain ⟨d, h1, h2⟩ := oK_inv h
      unfold PK.G
      simp only [h1]
      exact ⟨_, rfl, altK_ok h2⟩
    · rename_i hp
      have : (cfg.with pk).prim f = none := by simp only [Cfg.with, hp]
      simp only [this]
      exact funcK_ok (evK_ok k) fLoops_none h

/-- A function's text, once, with all that is told of others. -/
def unitK (P : Program) (cfg : Cfg) (pk : PKs) (lp : LPs) (f : FuncId) (args : List AV) (out : List Blk) : Option Ret :=
  funcK P (cfg.with pk) (evF P (cfg.with pk) 20) (evK P cfg pk 20) lp f args out some

theorem unitK_ok {cfg : Cfg} {pk : PKs} {lp : LPs} {f : FuncId} (hp : pk f = none) (hl : FLoopsOk P (cfg.with pk) (evF P (cfg.with pk) 20) lp f) {args : List AV} {out : List Blk} {r : Ret} (h : unitK P cfg pk lp f args out = some r) :
    evF P (cfg.with pk) 21 f args out = some r := by
  obtain ⟨q, h1, h2⟩ := funcK_ok (evK_ok 20) hl h
  cases h2
  have : (cfg.with pk).prim f = none := by simp only [Cfg.with, hp]
  simp only [evF, this]
  exact h1

/-- All that is told is so. -/
def PKsOk (P : Program) (pk : PKs) : Prop := ∀ f p, pk f = some p → PrimOk P f p.G

theorem PKsOk.none : PKsOk P (fun _ => none) := fun _ _ h => by cases h

def PKs.add (pk : PKs) (f : FuncId) (p : PK) : PKs := fun g => if g = f then some p else pk g

theorem PKsOk.fn {cfg : Cfg} {pk : PKs} (h : PKsOk P pk) {l : List FuncId} (hm : P.follows .mixedOrders = true) (hl : ∀ f, cfg.isF f = true → f ∈ l) (ht : l.all (fnOkB P cfg) = true) (k : Nat) : FnOk P (evF P (cfg.with pk) k) := by
  have ht' : l.all (fnOkB P (cfg.with pk)) = true := ht
  refine ev_sound (cfg := cfg.with pk) (cfg_ok hm (l := l) (fun f hf => hl f hf) ht' (fun f g hg => ?_)) k
  simp only [Cfg.with] at hg
  split at hg
  · rename_i p hp; cases hg; exact h f p hp
  · cases hg

theorem PKsOk.add {pk : PKs} (h : PKsOk P pk) {f : FuncId} {p : PK} {callF : CallF} (hF : FnOk P callF) (hp : ∀ args out d, p.dec args out = some d → callF f args out = some (p.out d).val) : PKsOk P (pk.add f p) := by
  intro g q hq
  unfold PKs.add at hq
  split at hq
  · rename_i hg
    cases hq
    subst hg
    intro args out r hr
    unfold PK.G at hr
    split at hr
    · rename_i d hd
      cases hr
      have := hp _ _ _ hd
      exact ⟨hF.there this, hF.ok this⟩
    · cases hr
  · exact h g q hq
end
end Go.Ab
