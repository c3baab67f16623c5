/- Regions whose order is drawn. -/
import Derived.Test.YtihgfpggdkhhaaaAbFrame
import Derived.Orders
set_option linter.unusedVariables false
set_option linter.unusedSimpArgs false
namespace Go.Ab
open Go

def pairOk (dyn : List (Nat × Nat)) (ops : Array Oper) (i j : Nat) (x y : Oper) : Bool :=
  x.apart ops y && (((!effOp x.op || valueOp y.op) && (!effOp y.op || valueOp x.op)) || dyn.contains (i, j))

def regOk (dyn : List (Nat × Nat)) (ops : Array Oper) : Bool :=
  let A := ancAll [] ops.toList
  (List.range ops.size).all fun j => match ops[j]? with
    | some y => (y.after.toList.all fun e => !Region.binds .any e || decide (e.on < j)) &&
      (List.range j).all fun i => match ops[i]? with
        | some x => (x.dst == none || x.dst != y.dst) && ((A.getD j []).contains i || pairOk dyn ops i j x y)
        | none => true
    | none => true

section
variable {P : Program} {w0 : World} {G X Lo : Nat → Prop}

theorem mem_addNew : ∀ {l acc : List Nat} {x : Nat}, x ∈ addNew acc l → x ∈ acc ∨ x ∈ l
  | [], _, _, h => .inl h
  | y :: r, acc, x, h => by
    simp only [addNew] at h
    split at h
    · rcases mem_addNew h with h | h
      · exact .inl h
      · exact .inr (by simp [h])
    · rcases mem_addNew h with h | h
      · rcases List.mem_append.1 h with h | h
        · exact .inl h
        · simp at h; exact .inr (by simp [h])
      · exact .inr (by simp [h])

/-- Down-closed. -/
def Closed (ops : Array Oper) (D : Nat → Prop) : Prop := ∀ (j : Nat) o, ops[j]? = some o → D j → ∀ e ∈ o.after.toList, Region.binds .any e = true → D e.on

theorem anc1_sub {D : Nat → Prop} {acc : List (List Nat)} (hacc : ∀ k, D k → ∀ x ∈ acc.getD k [], D x) : ∀ (l : List Edge) (cur : List Nat), (∀ e ∈ l, Region.binds .any e = true → D e.on) → (∀ x ∈ cur, D x) →
    ∀ x ∈ l.foldl (fun cur e => if Region.binds .any e then addNew cur (e.on :: acc.getD e.on []) else cur) cur, D x
  | [], cur, _, hc => hc
  | e :: l, cur, hl, hc => by
    simp only [List.foldl_cons]
    refine anc1_sub hacc l _ (fun e' he' => hl e' (by simp [he'])) ?_
    split
    · rename_i hb
      intro x hx
      have hD := hl e (by simp) hb
      rcases mem_addNew hx with h | h
      · exact hc x h
      · rcases List.mem_cons.1 h with rfl | h
        · exact hD
        · exact hacc _ hD x h
    · exact hc

theorem ancAll_sub {ops : Array Oper} {D : Nat → Prop} (hD : Closed ops D) : ∀ (rest : List Oper) (acc : List (List Nat)), (∀ j, rest[j]? = ops[acc.length + j]?) → (∀ k, D k → ∀ x ∈ acc.getD k [], D x) →
    ∀ k, D k → ∀ x ∈ (ancAll acc rest).getD k [], D x
  | [], acc, _, h => h
  | o :: rest, acc, hl, h => by
    simp only [ancAll]
    refine ancAll_sub hD rest _ (fun j => by have := hl (j + 1); simpa [Nat.add_assoc, Nat.add_comm 1 j] using this) ?_
    intro k hk x hx
    rcases Nat.lt_trichotomy k acc.length with hlt | heq | hgt
    · have e : (acc ++ [anc1 acc o.after.toList]).getD k [] = acc.getD k [] := by simp [List.getD, List.getElem?_append_left hlt]
      rw [e] at hx
      exact h k hk x hx
    · subst heq
      have e : (acc ++ [anc1 acc o.after.toList]).getD acc.length [] = anc1 acc o.after.toList := by simp [List.getD]
      rw [e] at hx
      have ho : ops[acc.length]? = some o := by simpa using (hl 0).symm
      exact anc1_sub h _ _ (hD _ o ho hk) (fun x hx => by simp at hx) x hx
    · have e : (acc ++ [anc1 acc o.after.toList]).getD k [] = [] := by
        simp [List.getD, List.getElem?_eq_none (show (acc ++ [anc1 acc o.after.toList]).length ≤ k by simp; omega)]
      rw [e] at hx; simp at hx

/-- The ancestors of what is ready. -/
theorem ancAll_ready {ops : Array Oper} {D : Nat → Prop} (hD : Closed ops D) {i : Nat} {o : Oper} (hi : ops[i]? = some o) (hd : ∀ e ∈ o.after.toList, Region.binds .any e = true → D e.on) (hlt : ∀ e ∈ o.after.toList, Region.binds .any e = true → e.on < i) :
    ∀ x ∈ (ancAll [] ops.toList).getD i [], x ≠ i → D x := by
  have hD' : Closed ops (fun k => D k ∨ k = i) := by
    intro j o' ho' hj e he hb
    rcases hj with hj | rfl
    · exact .inl (hD j o' ho' hj e he hb)
    · have : o' = o := Option.some.inj (ho'.symm.trans hi)
      subst this
      exact .inl (hd e he hb)
  intro x hx hne
  rcases ancAll_sub hD' ops.toList [] (fun j => by simp) (fun k _ x hx => by simp at hx) i (.inr rfl) x hx with h | h
  · exact h
  · exact absurd h hne

/-- What was done, in the text's order. -/
structure Rec where
  i : Nat
  o : Oper
  st : St
  v : AV
  ds : List (Nat × Blk)
  rd : List Nat

def StepR (P : Program) (cfg : Cfg) (callF : CallF) (ops : Array Oper) (r : Rec) : Prop :=
  (aWanted ops r.st r.o = some false ∧ r.v = .skp ∧ r.ds = [] ∧ r.rd = []) ∨ (aWanted ops r.st r.o = some true ∧ aOp P cfg callF r.st r.o = some (.val r.v r.ds) ∧ r.rd = readsK cfg r.st r.o)

def Runs (P : Program) (cfg : Cfg) (callF : CallF) (n : Nat) (ops : Array Oper) : Nat → List Oper → St → List Rec → St → Prop
  | _, [], st, T, st' => T = [] ∧ st' = st
  | i, o :: rest, st, T, st' => ∃ r st1 T', r.i = i ∧ r.o = o ∧ r.st = st ∧ StepR P cfg callF ops r ∧ st.put n o.dst r.v r.ds = some st1 ∧ T = r :: T' ∧ Runs P cfg callF n ops (i + 1) rest st1 T' st'

theorem aOps_df {cfg : Cfg} {callF : CallF} {n : Nat} {ops : Array Oper} {trk : Bool} {e : Ex} {st' : St} {t' : Trk} : ∀ {rest : List Oper} {i : Nat} {st : St} {t : Trk}, aOps P cfg callF n ops trk i rest st t = some (e, st', t') → st.df.length ≤ st'.df.length
  | [], i, st, t, h => by
    simp only [aOps, Option.some.injEq, Prod.mk.injEq] at h
    obtain ⟨_, rfl, _⟩ := h
    exact Nat.le_refl _
  | o :: rest, i, st, t, h => by
    simp only [aOps] at h
    split at h
    · cases h
    · split at h
      · rename_i st1 hp
        rw [← (put_some hp).2.1]; exact aOps_df h
      · cases h
    · split at h
      · cases h
      · split at h
        · rename_i st1 hp
          rw [← (put_some hp).2.1]; exact aOps_df h
        · cases h
      · split at h
        · rename_i st1 hp
          have := aOps_df h
          rw [← (put_some hp).2.1]
          simp only [List.length_cons] at this
          omega
        · cases h
      · simp only [Option.some.injEq, Prod.mk.injEq] at h
        obtain ⟨_, rfl, _⟩ := h
        exact Nat.le_refl _

theorem runs_of {cfg : Cfg} {callF : CallF} {n : Nat} {ops : Array Oper} {trk : Bool} : ∀ (rest : List Oper) (i : Nat) (st st' : St) (t t' : Trk), aOps P cfg callF n ops trk i rest st t = some (.norm, st', t') → st'.df.length = st.df.length →
    (∀ k, i ≤ k → look t k = none) → ∃ T, Runs P cfg callF n ops i rest st T st' ∧ (∀ k, k < i → look t' k = look t k) ∧ (trk = true → ∀ r ∈ T, trkAt t' r.i = (r.rd, keysOf r.ds))
  | [], i, st, st', t, t', h, _, _ => by
    simp only [aOps, Option.some.injEq, Prod.mk.injEq] at h
    obtain ⟨_, rfl, rfl⟩ := h
    exact ⟨[], ⟨rfl, rfl⟩, fun _ _ => rfl, fun _ _ h => by simp at h⟩
  | o :: rest, i, st, st', t, t', h, hnd, ht => by
    simp only [aOps] at h
    split at h
    · cases h
    · rename_i hw
      split at h
      · rename_i st1 hp
        obtain ⟨T, h1, h2, h3⟩ := runs_of rest (i + 1) st1 st' t t' h (by rw [(put_some hp).2.1]; exact hnd) (fun k hk => ht k (by omega))
        refine ⟨⟨i, o, st, .skp, [], []⟩ :: T, ⟨_, st1, T, rfl, rfl, rfl, .inl ⟨hw, rfl, rfl, rfl⟩, hp, rfl, h1⟩, fun k hk => h2 k (by omega), fun htr r hr => ?_⟩
        rcases List.mem_cons.1 hr with rfl | hr
        · show trkAt t' i = _
          unfold trkAt
          rw [h2 i (by omega), ht i (Nat.le_refl _)]; rfl
        · exact h3 htr r hr
      · cases h
    · rename_i hw
      split at h
      · cases h
      · rename_i v ds hop
        split at h
        · rename_i st1 hp
          generalize ht1 : (if trk then (i, readsK cfg st o, keysOf ds) :: t else t) = t1 at h
          have hk1 : ∀ k, i + 1 ≤ k → look t1 k = none := by
            intro k hk
            rw [← ht1]
            split
            · rw [look_cons, if_neg (by omega)]; exact ht k (by omega)
            · exact ht k (by omega)
          obtain ⟨T, h1, h2, h3⟩ := runs_of rest (i + 1) st1 st' t1 t' h (by rw [(put_some hp).2.1]; exact hnd) hk1
          refine ⟨⟨i, o, st, v, ds, readsK cfg st o⟩ :: T, ⟨_, st1, T, rfl, rfl, rfl, .inr ⟨hw, hop, rfl⟩, hp, rfl, h1⟩, fun k hk => ?_, fun htr r hr => ?_⟩
          · rw [h2 k (by omega), ← ht1]
            split
            · rw [look_cons, if_neg (by omega)]
            · rfl
          · rcases List.mem_cons.1 hr with rfl | hr
            · show trkAt t' i = _
              unfold trkAt
              rw [h2 i (by omega), ← ht1, if_pos htr, look_cons, if_pos rfl]; rfl
            · exact h3 htr r hr
        · cases h
      · split at h
        · rename_i st1 hp
          exfalso
          have := aOps_df h
          have e := (put_some hp).2.1
          simp only [List.length_cons] at this
          rw [e] at this
          omega
        · cases h
      · cases h

def lookB (D : Nat → Bool) : List Rec → Nat → Option Blk → Option Blk
  | [], _, base => base
  | r :: T, b, base => lookB D T b (if D r.i then (match look r.ds b with | some x => some x | none => base) else base)

def lookF (D : Nat → Bool) : List Rec → Nat → Option AV → Option AV
  | [], _, base => base
  | r :: T, t, base => lookF D T t (if D r.i then (if r.o.dst = some t then some r.v else base) else base)

theorem lookB_app (D : Nat → Bool) : ∀ (T1 T2 : List Rec) (b : Nat) (base : Option Blk), lookB D (T1 ++ T2) b base = lookB D T2 b (lookB D T1 b base)
  | [], _, _, _ => rfl
  | r :: T1, T2, b, base => lookB_app D T1 T2 b _
theorem lookF_app (D : Nat → Bool) : ∀ (T1 T2 : List Rec) (b : Nat) (base : Option AV), lookF D (T1 ++ T2) b base = lookF D T2 b (lookF D T1 b base)
  | [], _, _, _ => rfl
  | r :: T1, T2, b, base => lookF_app D T1 T2 b _

theorem lookB_eq {D D' : Nat → Bool} {b : Nat} : ∀ {T : List Rec} {base : Option Blk}, (∀ r ∈ T, look r.ds b ≠ none → D r.i = D' r.i) → lookB D T b base = lookB D' T b base
  | [], _, _ => rfl
  | r :: T, base, h => by
    simp only [lookB]
    have : (if D r.i then (match look r.ds b with | some x => some x | none => base) else base) = (if D' r.i then (match look r.ds b with | some x => some x | none => base) else base) := by
      cases hl : look r.ds b with
      | none => simp
      | some x => rw [h r (by simp) (by rw [hl]; simp)]
    rw [this]
    exact lookB_eq (fun r hr => h r (by simp [hr]))
theorem lookF_eq {D D' : Nat → Bool} {t : Nat} : ∀ {T : List Rec} {base : Option AV}, (∀ r ∈ T, r.o.dst = some t → D r.i = D' r.i) → lookF D T t base = lookF D' T t base
  | [], _, _ => rfl
  | r :: T, base, h => by
    simp only [lookF]
    have : (if D r.i then (if r.o.dst = some t then some r.v else base) else base) = (if D' r.i then (if r.o.dst = some t then some r.v else base) else base) := by
      by_cases hl : r.o.dst = some t
      · rw [h r (by simp) hl]
      · simp [hl]
    rw [this]
    exact lookF_eq (fun r hr => h r (by simp [hr]))

theorem lookB_none {D : Nat → Bool} {b : Nat} : ∀ {T : List Rec} {base : Option Blk}, (∀ r ∈ T, D r.i = true → look r.ds b = none) → lookB D T b base = base
  | [], _, _ => rfl
  | r :: T, base, h => by
    simp only [lookB]
    have : (if D r.i then (match look r.ds b with | some x => some x | none => base) else base) = base := by
      split
      · rename_i hd; rw [h r (by simp) hd]
      · rfl
    rw [this]
    exact lookB_none (fun r hr => h r (by simp [hr]))
theorem lookF_none {D : Nat → Bool} {t : Nat} : ∀ {T : List Rec} {base : Option AV}, (∀ r ∈ T, D r.i = true → r.o.dst ≠ some t) → lookF D T t base = base
  | [], _, _ => rfl
  | r :: T, base, h => by
    simp only [lookF]
    have : (if D r.i then (if r.o.dst = some t then some r.v else base) else base) = base := by
      split
      · rename_i hd; rw [if_neg (h r (by simp) hd)]
      · rfl
    rw [this]
    exact lookF_none (fun r hr => h r (by simp [hr]))

theorem put_look {n : Nat} {st st1 : St} {d : Option Tmp} {v : AV} {ds : List (Nat × Blk)} (h : st.put n d v ds = some st1) :
    (∀ b, look st1.bs b = match look ds b with | some x => some x | none => look st.bs b) ∧ (∀ t, look st1.fr t = if d = some t then some v else look st.fr t) ∧ st1.df = st.df := by
  obtain ⟨h1, h2, h3⟩ := put_some h
  refine ⟨fun b => by rw [h1, look_app]; cases look ds b <;> rfl, fun t => ?_, h2⟩
  rcases h3 with ⟨rfl, e⟩ | ⟨t', rfl, _, e⟩
  · rw [e]; simp
  · rw [e, look_cons]; simp

theorem Runs.look {cfg : Cfg} {callF : CallF} {n : Nat} {ops : Array Oper} : ∀ {rest : List Oper} {i : Nat} {st st' : St} {T : List Rec}, Runs P cfg callF n ops i rest st T st' →
    (∀ b, look st'.bs b = lookB (fun _ => true) T b (look st.bs b)) ∧ (∀ t, look st'.fr t = lookF (fun _ => true) T t (look st.fr t)) ∧ st'.df = st.df
  | [], i, st, st', T, h => by obtain ⟨rfl, rfl⟩ := h; exact ⟨fun _ => rfl, fun _ => rfl, rfl⟩
  | o :: rest, i, st, st', T, h => by
    obtain ⟨r, st1, T', e1, e2, e3, h1, h2, rfl, h3⟩ := h
    obtain ⟨g1, g2, g3⟩ := Runs.look h3
    obtain ⟨k1, k2, k3⟩ := put_look h2
    refine ⟨fun b => ?_, fun t => ?_, g3.trans k3⟩
    · rw [g1, k1]; rfl
    · rw [g2, k2, ← e2]; rfl

/-- One of them. -/
theorem Runs.at {cfg : Cfg} {callF : CallF} {n : Nat} {ops : Array Oper} : ∀ {rest : List Oper} {i : Nat} {st st' : St} {T : List Rec}, Runs P cfg callF n ops i rest st T st' → (∀ j, rest[j]? = ops[i + j]?) →
    (∀ r ∈ T, i ≤ r.i ∧ ops[r.i]? = some r.o ∧ StepR P cfg callF ops r ∧ ∃ st1, r.st.put n r.o.dst r.v r.ds = some st1) ∧
    ∀ (k : Nat) o, i ≤ k → ops[k]? = some o → ∃ T1 r T2, T = T1 ++ r :: T2 ∧ r.i = k ∧ r.o = o ∧ (∀ r' ∈ T1, r'.i < k) ∧ (∀ r' ∈ T2, k < r'.i) ∧
      (∀ b, Ab.look r.st.bs b = lookB (fun _ => true) T1 b (Ab.look st.bs b)) ∧ (∀ t, Ab.look r.st.fr t = lookF (fun _ => true) T1 t (Ab.look st.fr t)) ∧ r.st.df = st.df
  | [], i, st, st', T, h, hl => by
    obtain ⟨rfl, rfl⟩ := h
    refine ⟨fun r hr => by simp at hr, fun k o hk ho => ?_⟩
    have := hl (k - i)
    rw [show i + (k - i) = k by omega, ho] at this
    simp at this
  | o :: rest, i, st, st', T, h, hl => by
    obtain ⟨r, st1, T', e1, e2, e3, h1, h2, rfl, h3⟩ := h
    have hl' : ∀ j, rest[j]? = ops[i + 1 + j]? := fun j => by have := hl (j + 1); simpa [Nat.add_assoc, Nat.add_comm 1 j] using this
    have h0 : ops[i]? = some o := by simpa using (hl 0).symm
    obtain ⟨g1, g2⟩ := Runs.at h3 hl'
    obtain ⟨k1, k2, k3⟩ := put_look h2
    refine ⟨fun r' hr' => ?_, fun k o' hk ho' => ?_⟩
    · rcases List.mem_cons.1 hr' with rfl | hr'
      · exact ⟨by omega, by rw [e1, e2]; exact h0, h1, st1, by rw [e3, e2]; exact h2⟩
      · obtain ⟨a1, a2, a3, a4⟩ := g1 r' hr'
        exact ⟨by omega, a2, a3, a4⟩
    · by_cases he : k = i
      · subst he
        have : o' = o := Option.some.inj (ho'.symm.trans h0)
        subst this
        refine ⟨[], r, T', rfl, e1, e2, fun r' hr' => by simp at hr', fun r' hr' => by have := (g1 r' hr').1; omega, fun b => by rw [e3]; rfl, fun t => by rw [e3]; rfl, by rw [e3]⟩
      · obtain ⟨T1, r', T2, rfl, q1, q2, q3, q4, q5, q6, q7⟩ := g2 k o' (by omega) ho'
        refine ⟨r :: T1, r', T2, rfl, q1, q2, fun x hx => ?_, q4, fun b => ?_, fun t => ?_, q7.trans k3⟩
        · rcases List.mem_cons.1 hx with rfl | hx
          · omega
          · exact q3 x hx
        · rw [q5, k1]; rfl
        · rw [q6, k2, ← e2]; rfl

end
end Go.Ab
