/- Code: one thing behind another, tests, loops. -/
import Derived.Test.YtihgfpggdkhhaaaAbStep
set_option linter.unusedVariables false
set_option linter.unusedSimpArgs false
namespace Go.Ab
open Go

section
variable {P : Program} {w0 : World} {G X Lo : Nat → Prop}

/-- Calls that were put off. -/
def DfR (c : Cx) : List (AV × List AV) → List Deferred → Prop
  | [], [] => True
  | (f, args) :: r, d :: ds => (∃ fn first cap, ∃ vs : List Value, V c f (.func fn first cap) ∧ VL c args vs ∧ d = { target := .fn fn cap, args := first ++ vs.toArray }) ∧ DfR c r ds
  | _, _ => False

theorem DfR.mono {c c' : Cx} (L : Le c c') : ∀ {df : List (AV × List AV)} {ds : List Deferred}, DfR c df ds → DfR c' df ds
  | [], [], _ => trivial
  | (f, args) :: r, d :: ds, h => by
    obtain ⟨⟨fn, first, cap, vs, h1, h2, h3⟩, h4⟩ := h
    exact ⟨⟨fn, first, cap, vs, h1.mono L, h2.mono L, h3⟩, DfR.mono L h4⟩
  | [], _ :: _, h => h.elim
  | _ :: _, [], h => h.elim

/-- A state of the evaluator and one of the machine. -/
structure Sim (w0 : World) (G X Lo : Nat → Prop) (n : Nat) (c0 c : Cx) (st : St) (a : Act) : Prop where
  S : c.S = st.bs
  wr : WR w0 G X Lo c
  le : Le c0 c
  fr : Fr c n st.fr a.tmps
  df : DfR c st.df a.defers

def ExR (c : Cx) : Ex → Exit → Prop
  | .norm, ex => ex = .normal
  | .exit id, ex => ex = .exit id
  | .ret, ex => ex = .ret
  | .pan v, ex => ∃ u, V c v u ∧ ex = .panic [{ v := u, recovered := false }]

def Post (w0 : World) (G X Lo : Nat → Prop) (n : Nat) (c0 : Cx) (e : Ex) (st : St) (ex : Exit) (a : Act) (w : World) : Prop :=
  ∃ c, c.w = w ∧ Sim w0 G X Lo n c0 c st a ∧ ExR c e ex

theorem wanted_ok {n : Nat} {c : Cx} {st : St} {a : Act} (h : Fr c n st.fr a.tmps) {ops : Array Oper} {o : Oper} {b : Bool} (hw : aWanted ops st o = some b) : Region.wanted o (yielded ops a.tmps) = b := by
  unfold aWanted at hw
  unfold Region.wanted
  split at hw
  · rename_i hg; rw [hg]; cases hw; rfl
  · rename_i j want hg
    rw [hg]
    simp only [yielded]
    split at hw
    · rename_i g hj
      simp only [hj, Option.bind_some]
      split at hw
      · rename_i d hd
        simp only [hd, Option.bind_some]
        split at hw
        · rename_i b' hb
          cases hw
          cases hl : look st.fr d with
          | none => rw [hl] at hb; cases hb
          | some v =>
            rw [hl] at hb
            simp only [Option.getD_some] at hb
            subst hb
            have h1 := (h.rel d _ hl).bool_inv
            have hlt : d < a.tmps.size := by rw [h.size]; exact h.lt d _ hl
            simp [Array.getD, hlt] at h1
            have : a.tmps[d]? = some (.bool b') := by rw [Array.getElem?_eq_getElem hlt, h1]
            rw [this]
            cases b' <;> cases want <;> rfl
        · rename_i hb
          cases hw
          cases hl : look st.fr d with
          | none => rw [hl] at hb; cases hb
          | some v =>
            rw [hl] at hb
            simp only [Option.getD_some] at hb
            subst hb
            have h1 := (h.rel d _ hl).skp_inv
            have hlt : d < a.tmps.size := by rw [h.size]; exact h.lt d _ hl
            simp [Array.getD, hlt] at h1
            have : a.tmps[d]? = some Go.undef := by rw [Array.getElem?_eq_getElem hlt, h1]
            rw [this]
            rfl
        · cases hw
      · rename_i hd
        cases hw
        simp only [hd, Option.bind_none]
        rfl
    · rename_i hj
      cases hw
      simp only [hj, Option.bind_none]
      rfl

theorem put_some {n : Nat} {st st' : St} {d : Option Tmp} {v : AV} {ds : List (Nat × Blk)} (h : st.put n d v ds = some st') :
    st'.bs = ds ++ st.bs ∧ st'.df = st.df ∧ ((d = none ∧ st'.fr = st.fr) ∨ ∃ t, d = some t ∧ t < n ∧ st'.fr = (t, v) :: st.fr) := by
  unfold St.put at h
  split at h
  · rename_i t
    split at h
    · rename_i ht; cases h; exact ⟨rfl, rfl, .inr ⟨t, rfl, ht, rfl⟩⟩
    · cases h
  · cases h; exact ⟨rfl, rfl, .inl ⟨rfl, rfl⟩⟩

theorem Act.put_dfs (a : Act) (d : Option Tmp) (u : Value) : (a.put d u).defers = a.defers := by cases d <;> rfl

/-- A value is put where it belongs. -/
theorem Sim.put {n : Nat} {c0 c c1 : Cx} {st st' : St} {a : Act} (h : Sim w0 G X Lo n c0 c st a) {d : Option Tmp} {v : AV} {u : Value} {ds : List (Nat × Blk)} (hp : st.put n d v ds = some st')
    (hS : c1.S = ds ++ c.S) (hW : WR w0 G X Lo c1) (hL : Le c c1) (hv : V c1 v u) : Sim w0 G X Lo n c0 c1 st' (a.put d u) := by
  obtain ⟨h1, h2, h3⟩ := put_some hp
  refine ⟨by rw [hS, h.S, h1], hW, h.le.trans hL, ?_, by rw [h2, Act.put_dfs]; exact h.df.mono hL⟩
  rcases h3 with ⟨rfl, e⟩ | ⟨t, rfl, ht, e⟩
  · rw [e]; exact h.fr.mono hL
  · rw [e]; exact (h.fr.mono hL).put ht hv

theorem Sim.skip {n : Nat} {c0 c : Cx} {st st' : St} {a : Act} (h : Sim w0 G X Lo n c0 c st a) {d : Option Tmp} (hp : st.put n d .skp [] = some st') : Sim w0 G X Lo n c0 c st' (a.put d Go.undef) :=
  h.put hp rfl h.wr (Le.refl c) (.pure .skp)

theorem ops_ok {callF : CallF} (hF : FnOk P callF) {cfg : Cfg} {n : Nat} {ops : Array Oper} {trk : Bool} {c0 : Cx} {e : Ex} {st' : St} {t' : Trk} : ∀ (rest : List Oper) (i : Nat) (st : St) (t : Trk) (c : Cx) (a : Act),
    aOps P cfg callF n ops trk i rest st t = some (e, st', t') → (∀ j, rest[j]? = ops[i + j]?) → Sim w0 G X Lo n c0 c st a →
    wpOps P ops (Post w0 G X Lo n c0 e st') (List.range' i rest.length) a c.w
  | [], i, st, t, c, a, h, _, hs => by
    simp only [aOps, Option.some.injEq, Prod.mk.injEq] at h
    obtain ⟨rfl, rfl, _⟩ := h
    exact ⟨c, rfl, hs, rfl⟩
  | o :: rest, i, st, t, c, a, h, hl, hs => by
    have h0 : ops[i]? = some o := by simpa using (hl 0).symm
    have hl' : ∀ j, rest[j]? = ops[i + 1 + j]? := fun j => by have := hl (j + 1); simpa [Nat.add_assoc, Nat.add_comm 1 j] using this
    rw [List.length_cons, List.range'_succ]
    simp only [wpOps, h0]
    simp only [aOps] at h
    split at h
    · cases h
    · rename_i hw
      rw [if_neg (by rw [wanted_ok hs.fr hw]; decide)]
      split at h
      · rename_i st1 hp
        exact ops_ok hF rest (i + 1) st1 t c _ h hl' (hs.skip hp)
      · cases h
    · rename_i hw
      rw [if_pos (wanted_ok hs.fr hw)]
      refine .inl ?_
      split at h
      · cases h
      · rename_i v ds hop
        split at h
        · rename_i st1 hp
          exact op_ok hF hs.wr hs.S hs.fr hop _ _ (fun u c1 g1 g2 g3 g4 => ops_ok hF rest (i + 1) st1 _ c1 _ h hl' (hs.put hp g1 g2 g3 g4))
        · cases h
      · rename_i f args hop
        split at h
        · rename_i st1 hp
          refine op_ok hF hs.wr hs.S hs.fr hop _ _ (fun fv vs fn cap first g1 g2 g3 => ?_)
          have hs1 : Sim w0 G X Lo n c0 c { st1 with df := (f, args) :: st1.df } ({ a with defers := { target := .fn fn cap, args := first ++ vs.toArray } :: a.defers }.put o.dst Go.undef) := by
            have hs2 := hs.skip hp
            refine ⟨hs2.S, hs2.wr, hs2.le, ?_, ?_⟩
            · have e1 : ({ a with defers := { target := .fn fn cap, args := first ++ vs.toArray } :: a.defers }.put o.dst Go.undef).tmps = (a.put o.dst Go.undef).tmps := by cases o.dst <;> rfl
              rw [e1]; exact hs2.fr
            · rw [Act.put_dfs]
              have e2 := hs2.df
              rw [Act.put_dfs] at e2
              exact ⟨⟨fn, first, cap, vs, g3 ▸ g1, g2, rfl⟩, e2⟩
          exact ops_ok hF rest (i + 1) _ t c _ h hl' hs1
        · cases h
      · rename_i v ds hop
        simp only [Option.some.injEq, Prod.mk.injEq] at h
        obtain ⟨rfl, rfl, _⟩ := h
        refine op_ok hF hs.wr hs.S hs.fr hop _ _ (fun u c1 g1 g2 g3 g4 => ?_)
        exact ⟨c1, rfl, ⟨by rw [g1, hs.S], g2, hs.le.trans g3, hs.fr.mono g3, hs.df.mono g3⟩, u, g4, rfl⟩

/-- Only some blocks are kept in mind. -/
theorem look_keepFr : ∀ {fr : List (Nat × AV)} {ks : List Nat} {i : Nat} {v : AV}, look (keepFr fr ks) i = some v → look fr i = some v
  | fr, [], i, v, h => by simp [keepFr, look] at h
  | fr, k :: ks, i, v, h => by
    simp only [keepFr] at h
    split at h
    · rename_i x hx
      rw [look_cons] at h
      split at h
      · rename_i e; subst e; cases h; exact hx
      · exact look_keepFr h
    · exact look_keepFr h

theorem look_keepBs {bs : List (Nat × Blk)} : ∀ {ks : List Nat} {i : Nat}, look (keepBs bs ks) i = if i ∈ ks then look bs i else none
  | [], i => by simp [keepBs, look]
  | k :: ks, i => by
    simp only [keepBs]
    split
    · rename_i x hx
      rw [look_cons]
      by_cases e : k = i
      · subst e; simp [hx]
      · rw [if_neg e, look_keepBs]
        have : i ≠ k := fun h => e h.symm
        simp [this]
    · rename_i hx
      rw [look_keepBs]
      by_cases e : i = k
      · subst e; simp [hx]
      · simp [e]

theorem mem_keys_of_look {α : Type} : ∀ {l : List (Nat × α)} {i : Nat} {x : α}, look l i = some x → i ∈ l.map (·.1)
  | [], _, _, h => by simp [look] at h
  | (j, a) :: r, i, x, h => by
    rw [look_cons] at h
    split at h
    · rename_i e; simp [e]
    · simp [mem_keys_of_look h]

theorem look_of_mem_keys {α : Type} : ∀ {l : List (Nat × α)} {i : Nat}, i ∈ l.map (·.1) → ∃ x, look l i = some x
  | [], _, h => by simp at h
  | (j, a) :: r, i, h => by
    rw [look_cons]
    by_cases e : j = i
    · exact ⟨a, by simp [e]⟩
    · simp only [List.map_cons, List.mem_cons] at h
      rcases h with h | h
      · exact absurd h.symm e
      · obtain ⟨x, hx⟩ := look_of_mem_keys h
        exact ⟨x, by rw [if_neg e]; exact hx⟩

theorem mem_of_look {α : Type} : ∀ {l : List (Nat × α)} {i : Nat} {x : α}, look l i = some x → (i, x) ∈ l
  | [], _, _, h => by simp [look] at h
  | (j, a) :: r, i, x, h => by
    rw [look_cons] at h
    split at h
    · rename_i e; cases h; simp [e]
    · exact List.mem_cons_of_mem _ (mem_of_look h)

structure Keep (c c' : Cx) : Prop where
  w : c'.w = c.w
  R : c'.R = c.R
  F : ∀ i, c'.F i → c.F i
  S : ∀ b x, look c'.S b = some x → look c.S b = some x

theorem Keep.pv {c c' : Cx} (K : Keep c c') {a : AV} {v : Value} (h : PV c.w c.F a v) : PV c'.w c'.F a v :=
  h.mono (by rw [K.w]; exact Nat.le_refl _) (fun i _ hf hf' => hf (K.F i hf')) (fun i _ _ => by rw [K.w])

theorem Keep.v1 {c c' : Cx} (K : Keep c c') {ks : List Nat} (hks : ∀ b ∈ ks, look c'.S b = look c.S b) {a : AV} {v : Value} (hr : ok1 ks a = true) (h : V c a v) : V c' a v := by
  cases h with
  | pure h => exact .pure (K.pv h)
  | agg => cases hr
  | tup => cases hr
  | sref b w off len val hone x hb hv h =>
    have : b ∈ ks := by simpa [ok1] using hr
    refine .sref b w off len _ hone x (by rw [hks b this]; exact hb) hv (fun e k => ?_)
    rw [K.w, K.R]; exact h e k
  | ptr b w i off val hone x hb hv h =>
    have : b ∈ ks := by simpa [ok1] using hr
    refine .ptr b w i off _ hone x (by rw [hks b this]; exact hb) hv (fun e => ?_)
    rw [K.R]; exact h e
  | eptr e off b o vals hb hF hl hc ha hv =>
    exact .eptr e off b o vals (by rw [K.w]; exact hb) (fun h => hF (K.F _ h)) hl hc (fun k v hk => by rw [K.w]; exact ha k v hk) (fun k a v h1 h2 => K.pv (hv k a v h1 h2))
  | fn f fs cs vfs vcs hl1 hl2 h1 h2 =>
    cases fs with
    | cons => simp [ok1] at hr
    | nil => cases cs with
      | cons => simp [ok1] at hr
      | nil => exact .fn f [] [] vfs vcs hl1 hl2 (fun i a u g1 => by simp at g1) (fun i a u g1 => by simp at g1)

theorem Keep.vK {c c' : Cx} (K : Keep c c') {ks : List Nat} (hks : ∀ b ∈ ks, look c'.S b = look c.S b) {a : AV} {v : Value} (hr : okK ks a = true) (h : V c a v) : V c' a v := by
  cases a with
  | fn f fs cs =>
    obtain ⟨vfs, vcs, rfl, l1, l2, p1, p2⟩ := h.fn_inv
    simp only [okK, Bool.and_eq_true] at hr
    exact .fn f fs cs vfs vcs l1 l2 (fun i a u g1 g2 => K.v1 hks (List.all_eq_true.1 hr.1 a (List.mem_of_getElem? g1)) (p1 i a u g1 g2))
      (fun i a u g1 g2 => K.v1 hks (List.all_eq_true.1 hr.2 a (List.mem_of_getElem? g1)) (p2 i a u g1 g2))
  | _ => exact K.v1 hks hr h

theorem Keep.vA {c c' : Cx} (K : Keep c c') {ks : List Nat} (hks : ∀ b ∈ ks, look c'.S b = look c.S b) {a : AV} {v : Value} (hr : okA ks a = true) (h : V c a v) : V c' a v := by
  cases a with
  | agg cs =>
    obtain ⟨vs, rfl, h1, h2, h3⟩ := h.agg_inv
    exact .agg cs vs h1 h2 (fun i a u g1 g2 => K.vK hks (List.all_eq_true.1 hr a (List.mem_of_getElem? g1)) (h3 i a u g1 g2))
  | _ => exact K.vK hks hr h

theorem Keep.v {c c' : Cx} (K : Keep c c') {ks : List Nat} (hks : ∀ b ∈ ks, look c'.S b = look c.S b) {a : AV} {v : Value} (hr : okRefs ks a = true) (h : V c a v) : V c' a v := by
  cases a with
  | tup cs =>
    obtain ⟨vs, rfl, h1, h3⟩ := h.tup_inv
    exact .tup cs vs h1 (fun i a u g1 g2 => K.vA hks (List.all_eq_true.1 hr a (List.mem_of_getElem? g1)) (h3 i a u g1 g2))
  | _ => exact K.vA hks hr h

theorem mem_addNew' : ∀ (l acc : List Nat) (x : Nat), x ∈ acc ∨ x ∈ l → x ∈ addNew acc l
  | [], acc, x, h => by
    rcases h with h | h
    · exact h
    · simp at h
  | y :: r, acc, x, h => by
    unfold addNew
    split
    · rename_i hc
      refine mem_addNew' r acc x ?_
      rcases h with h | h
      · exact .inl h
      · rcases List.mem_cons.1 h with rfl | h
        · exact .inl (by simpa using hc)
        · exact .inr h
    · refine mem_addNew' r _ x ?_
      rcases h with h | h
      · exact .inl (by simp [h])
      · rcases List.mem_cons.1 h with rfl | h
        · exact .inl (by simp)
        · exact .inr h

theorem restrict0_ok {n : Nat} {c0 c : Cx} {st st' : St} {a : Act} {k : Option (List Nat × List Nat)} (h0 : ∀ b x, look c0.S b = some x → outBase ≤ b) (h : Sim w0 G X Lo n c0 c st a)
    (hr : restrict0 k st = some st') : ∃ c', c'.w = c.w ∧ Sim w0 G X Lo n c0 c' st' a := by
  unfold restrict0 at hr
  split at hr
  · cases hr; exact ⟨c, rfl, h⟩
  · rename_i fs ks
    dsimp only at hr
    generalize hks : addNew [] (ks ++ (st.bs.map (·.1)).filter (outBase ≤ ·)) = ks' at hr
    split at hr
    · rename_i hok
      cases hr
      simp only [Bool.and_eq_true] at hok
      obtain ⟨⟨ok1, ok2⟩, ok3⟩ := hok
      let c' : Cx := { w := c.w, R := c.R, S := keepBs st.bs ks', F := fOf X c.R (keepBs st.bs ks') }
      have hlk : ∀ b, look c'.S b = if b ∈ ks' then look c.S b else none := fun b => by
        show look (keepBs st.bs ks') b = _
        rw [look_keepBs, h.S]
      have hsub : ∀ b x, look c'.S b = some x → look c.S b = some x := by
        intro b x hb
        rw [hlk] at hb
        split at hb
        · exact hb
        · cases hb
      have K : Keep c c' := by
        refine ⟨rfl, rfl, ?_, hsub⟩
        rintro i (hx | ⟨b, x, g1, g2, g3, g4⟩)
        · exact (h.wr.hF i).2 (.inl hx)
        · exact (h.wr.hF i).2 (.inr ⟨b, x, hsub b x g1, g2, g3, g4⟩)
      have hall : ∀ b ∈ (keepBs st.bs ks').map (·.1), look c'.S b = look c.S b := by
        intro b hb
        obtain ⟨x, hx⟩ := look_of_mem_keys hb
        have hx' : look c'.S b = some x := hx
        rw [hx', hsub b x hx']
      refine ⟨c', rfl, rfl, ?_, ?_, ?_, ?_⟩
      · refine ⟨h.wr.size, h.wr.kept, h.wr.os, h.wr.out, h.wr.xs, fun b x hb hd => h.wr.own b x (hsub b x hb) hd, fun b x hb hd => h.wr.low b x (hsub b x hb) hd,
          fun b b' x x' hb hd hb' hd' e => h.wr.inj b b' x x' (hsub b x hb) hd (hsub b' x' hb') hd' e, fun b x hb hd => ?_, fun _ => Iff.rfl⟩
        obtain ⟨cells, t, lo, hi, g1, g2, g3, g4⟩ := (h.wr.blk b x (hsub b x hb) hd).here
        refine ⟨cells, t, lo, hi, g1, g2, fun hk => ?_, fun hk => ⟨(g4 hk).1, fun k a ha => let ⟨v, v1, v2⟩ := (g4 hk).2 k a ha; ⟨v, v1, K.pv v2⟩⟩⟩
        intro k a ha
        obtain ⟨q1, v, q2, q3⟩ := g3 hk k a ha
        have := List.all_eq_true.1 ok2 (b, x) (mem_of_look hb)
        simp only [hk] at this
        exact ⟨q1, v, q2, K.v hall (List.all_eq_true.1 this a (List.mem_of_getElem? ha)) q3⟩
      · refine ⟨h.le.size, fun b hb hf hf' => h.le.hF b hb hf (K.F b hf'), h.le.hw, fun b x hx => ?_⟩
        obtain ⟨x', g1, g2, g3⟩ := h.le.hS b x hx
        refine ⟨x', ?_, g2, g3⟩
        rw [hlk, if_pos ?_]
        · exact g1
        · rw [← hks]
          refine mem_addNew' _ _ _ (.inr (List.mem_append.2 (.inr (List.mem_filter.2 ⟨?_, by simpa using h0 b x hx⟩))))
          rw [← h.S]; exact mem_keys_of_look g1
      · refine ⟨h.fr.size, fun t v ht => h.fr.lt t v (look_keepFr ht), fun t v ht => ?_⟩
        exact K.v hall (List.all_eq_true.1 ok1 (t, v) (mem_of_look ht)) (h.fr.rel t v (look_keepFr ht))
      · have key : ∀ (df : List (AV × List AV)) (ds : List Deferred), (df.all fun x => okRefs ((keepBs st.bs ks').map (·.1)) x.1 && x.2.all (okRefs ((keepBs st.bs ks').map (·.1)))) = true → DfR c df ds → DfR c' df ds := by
          intro df
          induction df with
          | nil => intro ds _ hd; cases ds with
            | nil => trivial
            | cons => exact hd.elim
          | cons p r ih =>
            obtain ⟨f, args⟩ := p
            intro ds hall' hd
            cases ds with
            | nil => exact hd.elim
            | cons d ds =>
              simp only [List.all_cons, Bool.and_eq_true] at hall'
              obtain ⟨⟨fn, first, cap, vs, h1, h2, h3⟩, h4⟩ := hd
              exact ⟨⟨fn, first, cap, vs, K.v hall hall'.1.1 h1, ⟨h2.1, fun i a u g1 g2 => K.v hall (List.all_eq_true.1 hall'.1.2 a (List.mem_of_getElem? g1)) (h2.2 i a u g1 g2)⟩, h3⟩, ih ds hall'.2 h4⟩
        exact key _ _ ok3 h.df
    · cases hr

theorem look_mapV {α β : Type} {f : α → Option β} : ∀ {l : List (Nat × α)} {r : List (Nat × β)}, mapV f l = some r → ∀ i, match look l i with
    | some a => ∃ b, f a = some b ∧ look r i = some b
    | none => look r i = none
  | [], r, h, i => by cases h; simp [look]
  | (j, a) :: l, r, h, i => by
    unfold mapV at h
    split at h
    · rename_i b hb
      split at h
      · rename_i q hq
        cases h
        by_cases hji : j = i
        · have e1 : look ((j, a) :: l) i = some a := by simp [look, hji]
          rw [e1]
          exact ⟨b, hb, by simp [look, hji]⟩
        · have e1 : look ((j, a) :: l) i = look l i := by simp [look, hji]
          have e2 : look ((j, b) :: q) i = look q i := by simp [look, hji]
          rw [e1, e2]
          exact look_mapV hq i
      · cases h
    · cases h

theorem look_mapV_back {α β : Type} {f : α → Option β} {l : List (Nat × α)} {r : List (Nat × β)} (h : mapV f l = some r) {i : Nat} {b : β} (hb : look r i = some b) : ∃ a, look l i = some a ∧ f a = some b := by
  have := look_mapV h i
  cases hl : look l i with
  | none => rw [hl] at this; simp only at this; rw [this] at hb; cases hb
  | some a =>
    rw [hl] at this
    obtain ⟨b', h1, h2⟩ := this
    rw [h2] at hb
    cases hb
    exact ⟨a, rfl, h1⟩

theorem vzero_ok {n : Nat} {c0 c : Cx} {st st' : St} {a : Act} (h0 : ∀ b x, look c0.S b = some x → outBase ≤ b) (h : Sim w0 G X Lo n c0 c st a)
    (hr : vzero st = some st') : ∃ c', c'.w = c.w ∧ Sim w0 G X Lo n c0 c' st' a := by
  unfold vzero at hr
  split at hr
  case isFalse => cases hr
  rename_i hver
  dsimp only at hr
  generalize hm : (fun b v => match ldBlk st.bs b v with
      | some _ => some (Nm.key b 0)
      | none => none) = m at hr
  split at hr
  case h_1 => cases hr
  rename_i fr hfr
  split at hr
  case h_1 => cases hr
  rename_i bs hbs
  split at hr
  case h_1 => cases hr
  rename_i df hdf
  cases hr
  let c' : Cx := { w := c.w, F := c.F, R := c.R, S := bs }
  have hS := h.S
  have hback : ∀ b y, look c'.S b = some y → ∃ x, look c.S b = some x ∧ renBlk m x = some y := by
    intro b y hy
    obtain ⟨x, h1, h2⟩ := look_mapV_back hbs hy
    exact ⟨x, by rw [hS]; exact h1, h2⟩
  have hforw : ∀ b x, look c.S b = some x → ∃ y, look c'.S b = some y ∧ renBlk m x = some y := by
    intro b x hx
    have := look_mapV hbs b
    rw [hS] at hx
    rw [hx] at this
    obtain ⟨y, h1, h2⟩ := this
    exact ⟨y, h2, h1⟩
  have hren : Ren c c' m := by
    refine ⟨Nat.le_refl _, fun _ _ hf => hf, fun _ _ _ => rfl, fun b v nm hnm => ?_⟩
    rw [← hm] at hnm
    simp only at hnm
    split at hnm
    · rename_i x hx
      cases hnm
      unfold ldBlk at hx
      split at hx
      · rename_i x' hx'
        split at hx
        · rename_i hv
          cases hx
          rw [← hS] at hx'
          obtain ⟨y, h1, h2⟩ := hforw b x hx'
          obtain ⟨y1, y2, y3, y4, y5, y6⟩ := renBlk_some h2
          refine ⟨x, hx', hv.1, y, h1, Nat.zero_le _, fun _ _ => ⟨y2, rfl, y4, fun hk => by rw [y5 hk], fun cells t f hc => ⟨cells, t, f, hc, rfl⟩⟩⟩
        · cases hx
      · cases hx
    · cases hnm
  refine ⟨c', rfl, rfl, ?_, ?_, ?_, ?_⟩
  · have hw := h.wr
    refine ⟨hw.size, hw.kept, hw.os, hw.out, hw.xs, ?_, ?_, ?_, ?_, ?_⟩
    · intro b y hy hd
      obtain ⟨x, h1, h2⟩ := hback b y hy
      obtain ⟨_, y2, y3, _⟩ := renBlk_some h2
      rw [y2] at hd
      have := hw.own b x h1 hd
      rw [y3]
      exact this
    · intro b y hy hd
      obtain ⟨x, h1, h2⟩ := hback b y hy
      obtain ⟨_, y2, _⟩ := renBlk_some h2
      rw [y2] at hd
      exact hw.low b x h1 hd
    · intro b b' y y' hy hd hy' hd' e
      obtain ⟨x, h1, h2⟩ := hback b y hy
      obtain ⟨x', h1', h2'⟩ := hback b' y' hy'
      rw [(renBlk_some h2).2.1] at hd
      rw [(renBlk_some h2').2.1] at hd'
      exact hw.inj b b' x x' h1 hd h1' hd' e
    · intro b y hy hd
      obtain ⟨x, h1, h2⟩ := hback b y hy
      obtain ⟨y1, y2, y3, y4, y5, y6⟩ := renBlk_some h2
      rw [y2] at hd
      obtain ⟨cells, t, lo, hi, g1, g2, g3, g4⟩ := (hw.blk b x h1 hd).here
      refine ⟨cells, t, lo, hi, g1, g2, fun hk => ?_, fun hk => ?_⟩
      · rw [y2] at hk
        exact mapO_renD_content (fun a a' v _ _ hv hr => renD_ok hren hv hr) (y6 hk) (g3 hk)
      · rw [y2] at hk
        rw [y5 hk, y4]
        exact g4 hk
    · intro i
      rw [show c'.F i ↔ c.F i from Iff.rfl, hw.hF i]
      constructor
      · rintro (hx | ⟨b, x, q1, q2, q3, q4⟩)
        · exact .inl hx
        · obtain ⟨y, h1, h2⟩ := hforw b x q1
          obtain ⟨_, y2, y3, _⟩ := renBlk_some h2
          exact .inr ⟨b, y, h1, by rw [y2]; exact q2, by rw [y3]; exact q3, q4⟩
      · rintro (hx | ⟨b, y, q1, q2, q3, q4⟩)
        · exact .inl hx
        · obtain ⟨x, h1, h2⟩ := hback b y q1
          obtain ⟨_, y2, y3, _⟩ := renBlk_some h2
          exact .inr ⟨b, x, h1, by rw [← y2]; exact q2, by rw [← y3]; exact q3, q4⟩
  · refine ⟨h.le.size, h.le.hF, h.le.hw, fun b x hx => ?_⟩
    obtain ⟨x1, g1, g2, g3⟩ := h.le.hS b x hx
    obtain ⟨y, h1, h2⟩ := hforw b x1 g1
    obtain ⟨y1, y2, y3, y4, y5, y6⟩ := renBlk_some h2
    have hb := h0 b x hx
    have hx1 : x1.v = 0 := by
      rw [hS] at g1
      have := List.all_eq_true.1 hver (b, x1) (mem_of_look g1)
      simp only [Bool.or_eq_true, decide_eq_true_eq] at this
      rcases this with h | h
      · omega
      · exact h
    refine ⟨y, h1, by omega, fun hv hd => ?_⟩
    rw [y2] at hd
    obtain ⟨k1, k2, k3, k4, k5, k6⟩ := g3 (by omega) hd
    refine ⟨k1.trans y2.symm, k2, y4.trans k3, fun hk => ?_, fun hf => by rw [y3]; exact k5 hf, k6⟩
    rw [y5 (by rw [← k1]; exact hk)]
    exact k4 hk
  · refine ⟨h.fr.size, fun t v ht => ?_, fun t v ht => ?_⟩
    · obtain ⟨x, h1, _⟩ := look_mapV_back hfr ht
      exact h.fr.lt t x h1
    · obtain ⟨x, h1, h2⟩ := look_mapV_back hfr ht
      exact renT_ok hren (h.fr.rel t x h1) h2
  · have hl : ∀ {as bs : List AV} {vs : List Value}, VL c as vs → mapO (renT m) as = some bs → VL c' bs vs := by
      intro as bs vs hv hm
      obtain ⟨e1, e2⟩ := mapO_get hm
      refine ⟨e1.trans hv.1, fun i x v hx hvv => ?_⟩
      obtain ⟨y, hy, hr⟩ := e2 i x hx
      exact renT_ok hren (hv.2 i y v hy hvv) hr
    have key : ∀ (l : List (AV × List AV)) (r : List (AV × List AV)) (ds : List Deferred), mapO (fun x => match renT m x.1 with
          | some f => match mapO (renT m) x.2 with
            | some l => some (f, l)
            | none => none
          | none => none) l = some r → DfR c l ds → DfR c' r ds := by
      intro l
      induction l with
      | nil => intro r ds hm hd; cases hm; cases ds with
        | nil => trivial
        | cons => exact hd.elim
      | cons p l ih =>
        intro r ds hm hd
        unfold mapO at hm
        split at hm
        · rename_i q hq
          split at hm
          · rename_i r' hr'
            cases hm
            cases ds with
            | nil => exact hd.elim
            | cons d ds =>
              obtain ⟨⟨fn, first, cap, vs, h1, h2, h3⟩, h4⟩ := hd
              split at hq
              · rename_i f hf
                split at hq
                · rename_i l' hl'
                  cases hq
                  exact ⟨⟨fn, first, cap, vs, renT_ok hren h1 hf, hl h2 hl', h3⟩, ih r' ds hr' h4⟩
                · cases hq
              · cases hq
          · cases hm
        · cases hm
    exact key _ _ _ hdf h.df

theorem restrict_ok {n : Nat} {c0 c : Cx} {st st' : St} {a : Act} {k : Option (List Nat × List Nat)} (h0 : ∀ b x, look c0.S b = some x → outBase ≤ b) (h : Sim w0 G X Lo n c0 c st a)
    (hr : restrict k st = some st') : ∃ c', c'.w = c.w ∧ Sim w0 G X Lo n c0 c' st' a := by
  unfold restrict at hr
  split at hr
  · cases hr; exact ⟨c, rfl, h⟩
  · split at hr
    · rename_i s hs
      obtain ⟨c1, e1, h1⟩ := restrict0_ok h0 h hs
      obtain ⟨c2, e2, h2⟩ := vzero_ok h0 h1 hr
      exact ⟨c2, e2.trans e1, h2⟩
    · cases hr

/-- Are the drawn regions good? -/
def codeOk (reg : Nat → Array Oper → Bool) : Code → Bool
  | .region id ops true => reg id ops
  | .seq a b => codeOk reg a && codeOk reg b
  | .cond _ a b => codeOk reg a && codeOk reg b
  | .block _ b => codeOk reg b
  | .loop b => codeOk reg b
  | _ => true

/-- What is to be shown of a drawn region. -/
def DrawOk (P : Program) (cfg : Cfg) (callF : CallF) (reg : FuncId → Nat → Array Oper → Bool) : Prop :=
  ∀ (f : FuncId) (n id : Nat) (ops : Array Oper), reg f id ops = true → ∀ (w0 : World) (G X Lo : Nat → Prop) (c0 c : Cx) (st st' : St) (a : Act) (e : Ex), aRegion P cfg callF f n id ops true st = some (e, st') → Sim w0 G X Lo n c0 c st a →
    (Code.region id ops true).wp P (Post w0 G X Lo n c0 e st') a c.w

theorem exists_least {p : Nat → Prop} (h : ∃ n, p n) : ∃ n, p n ∧ ∀ m, p m → n ≤ m := by
  obtain ⟨n, hn⟩ := h
  induction n using Nat.strongRecOn with
  | _ n ih =>
    by_cases hm : ∃ m, m < n ∧ p m
    · obtain ⟨m, h1, h2⟩ := hm
      exact ih m h1 h2
    · refine ⟨n, hn, fun m h => ?_⟩
      rcases Nat.lt_or_ge m n with hlt | hge
      · exact absurd ⟨m, hlt, h⟩ hm
      · exact hge

open Classical in
theorem loop_ok {n : Nat} {c0 : Cx} {b : Code} {res : St → Option St} {body : St → Option (Ex × St)} {e : Ex} {st' : St}
    (hres : ∀ st st1 c a, res st = some st1 → Sim w0 G X Lo n c0 c st a → ∃ c', c'.w = c.w ∧ Sim w0 G X Lo n c0 c' st1 a)
    (hbody : ∀ st e1 st1 c a, body st = some (e1, st1) → Sim w0 G X Lo n c0 c st a → b.wp P (Post w0 G X Lo n c0 e1 st1) a c.w)
    {k : Nat} {st : St} {c : Cx} {a : Act} (h : aLoop res body k st = some (e, st')) (hs : Sim w0 G X Lo n c0 c st a) : (Code.loop b).wp P (Post w0 G X Lo n c0 e st') a c.w := by
  let Inv : Nat → Act → World → Prop := fun k a w => ∃ st c, c.w = w ∧ aLoop res body k st = some (e, st') ∧ Sim w0 G X Lo n c0 c st a
  let μ : Act → World → Nat := fun a w => if h : ∃ k, Inv k a w then Classical.choose (exists_least h) else 0
  refine wp_loop (fun a w => ∃ k, Inv k a w) μ ⟨k, st, c, rfl, h, hs⟩ ?_
  intro a w hI
  have hμ : μ a w = Classical.choose (exists_least hI) := dif_pos hI
  obtain ⟨st1, c1, hw, hl, hs1⟩ := (Classical.choose_spec (exists_least hI)).1
  rw [hμ]
  generalize Classical.choose (exists_least hI) = k at hl
  cases k with
  | zero => simp [aLoop] at hl
  | succ k =>
    simp only [aLoop] at hl
    split at hl
    · cases hl
    · rename_i st2 h2
      obtain ⟨c2, hw2, hs2⟩ := hres _ _ _ _ h2 hs1
      split at hl
      · rename_i st3 h3
        have := hbody _ _ _ _ _ h3 hs2
        rw [hw2, hw] at this
        refine wp_mono this ?_
        rintro ex a' w' ⟨c3, hw3, hs3, hex⟩
        have hex : ex = .normal := hex
        subst hex
        have hI' : ∃ k, Inv k a' w' := ⟨k, st3, c3, hw3, hl, hs3⟩
        refine ⟨hI', ?_⟩
        have : μ a' w' = Classical.choose (exists_least hI') := dif_pos hI'
        rw [this]
        exact Nat.lt_succ_of_le ((Classical.choose_spec (exists_least hI')).2 _ ⟨st3, c3, hw3, hl, hs3⟩)
      · rename_i hnn
        cases hb : body st2 with
        | none => rw [hb] at hl; cases hl
        | some p =>
          obtain ⟨e1, st3⟩ := p
          rw [hb] at hl
          cases hl
          have := hbody _ _ _ _ _ hb hs2
          rw [hw2, hw] at this
          refine wp_mono this ?_
          rintro ex a' w' ⟨c3, hw3, hs3, hex⟩
          cases e with
          | norm => exact absurd hb (hnn _)
          | exit id => cases hex; exact ⟨c3, hw3, hs3, rfl⟩
          | ret => cases hex; exact ⟨c3, hw3, hs3, rfl⟩
          | pan v =>
            obtain ⟨u, hu, rfl⟩ := hex
            exact ⟨c3, hw3, hs3, u, hu, rfl⟩

theorem code_ok {callF : CallF} (hF : FnOk P callF) {cfg : Cfg} {reg : FuncId → Nat → Array Oper → Bool} (hD : DrawOk P cfg callF reg) {f : FuncId} {n : Nat} {c0 : Cx} (h0 : ∀ b x, look c0.S b = some x → outBase ≤ b) :
    ∀ (code : Code) (m : Nat) (st : St) (e : Ex) (st' : St) (c : Cx) (a : Act), codeOk (reg f) code = true → aCode P cfg callF f n m code st = some (e, st') → Sim w0 G X Lo n c0 c st a →
      code.wp P (Post w0 G X Lo n c0 e st') a c.w := by
  intro code
  induction code with
  | skip =>
    intro m st e st' c a _ h hs
    simp only [aCode, Option.some.injEq, Prod.mk.injEq] at h
    obtain ⟨rfl, rfl⟩ := h
    exact wp_skip ⟨c, rfl, hs, rfl⟩
  | label l =>
    intro m st e st' c a _ h hs
    simp only [aCode, Option.some.injEq, Prod.mk.injEq] at h
    obtain ⟨rfl, rfl⟩ := h
    exact wp_label ⟨c, rfl, hs, rfl⟩
  | exit id =>
    intro m st e st' c a _ h hs
    simp only [aCode, Option.some.injEq, Prod.mk.injEq] at h
    obtain ⟨rfl, rfl⟩ := h
    exact wp_exit ⟨c, rfl, hs, rfl⟩
  | ret =>
    intro m st e st' c a _ h hs
    simp only [aCode, Option.some.injEq, Prod.mk.injEq] at h
    obtain ⟨rfl, rfl⟩ := h
    exact wp_ret ⟨c, rfl, hs, rfl⟩
  | region id ops draw =>
    intro m st e st' c a hk h hs
    simp only [aCode] at h
    cases draw with
    | true => exact hD f n id ops hk _ _ _ _ _ _ _ _ _ _ h hs
    | false =>
      simp only [aRegion, Bool.false_eq_true, if_false] at h
      split at h
      · rename_i e1 st1 t1 h1
        cases h
        refine wp_region ?_
        rw [List.range_eq_range']
        have := ops_ok hF ops.toList 0 st [] c a h1 (fun j => by simp) hs
        simpa using this
      · cases h
  | seq x y ihx ihy =>
    intro m st e st' c a hk h hs
    simp only [codeOk, Bool.and_eq_true] at hk
    simp only [aCode] at h
    split at h
    · rename_i st1 h1
      refine wp_seq (wp_mono (ihx m st .norm st1 c a hk.1 h1 hs) ?_)
      rintro ex a' w' ⟨c1, hw, hs1, hex⟩
      have hex : ex = .normal := hex
      subst hex
      show y.wp P _ a' w'
      rw [← hw]
      exact ihy m st1 e st' c1 a' hk.2 h hs1
    · rename_i hnn
      refine wp_seq (wp_mono (ihx m st e st' c a hk.1 h hs) ?_)
      rintro ex a' w' ⟨c1, hw, hs1, hex⟩
      cases e with
      | norm => exact absurd h (hnn _)
      | exit id => cases hex; exact ⟨c1, hw, hs1, rfl⟩
      | ret => cases hex; exact ⟨c1, hw, hs1, rfl⟩
      | pan v =>
        obtain ⟨u, hu, rfl⟩ := hex
        exact ⟨c1, hw, hs1, u, hu, rfl⟩
  | cond q x y ihx ihy =>
    intro m st e st' c a hk h hs
    simp only [codeOk, Bool.and_eq_true] at hk
    simp only [aCode] at h
    split at h
    · rename_i t ht
      have hq := ht ▸ ev_ok hs.fr q
      cases t with
      | true => exact wp_cond_true hq.bool_inv (ihx m st e st' c a hk.1 h hs)
      | false => exact wp_cond_false hq.bool_inv (ihy m st e st' c a hk.2 h hs)
    · cases h
  | block id x ih =>
    intro m st e st' c a hk h hs
    simp only [codeOk] at hk
    simp only [aCode] at h
    split at h
    · rename_i j st1 h1
      refine wp_block (wp_mono (ih id st (.exit j) st1 c a hk h1 hs) ?_)
      rintro ex a' w' ⟨c1, hw, hs1, hex⟩
      have hex : ex = .exit j := hex
      subst hex
      show if j = id then _ else _
      split at h
      · rename_i hj
        cases h
        rw [if_pos hj]
        exact ⟨c1, hw, hs1, rfl⟩
      · rename_i hj
        cases h
        rw [if_neg hj]
        exact ⟨c1, hw, hs1, rfl⟩
    · rename_i hnn
      refine wp_block (wp_mono (ih id st e st' c a hk h hs) ?_)
      rintro ex a' w' ⟨c1, hw, hs1, hex⟩
      cases e with
      | exit id => exact absurd h (hnn _ _)
      | norm => cases hex; exact ⟨c1, hw, hs1, rfl⟩
      | ret => cases hex; exact ⟨c1, hw, hs1, rfl⟩
      | pan v =>
        obtain ⟨u, hu, rfl⟩ := hex
        exact ⟨c1, hw, hs1, u, hu, rfl⟩
  | loop x ih =>
    intro m st e st' c a hk h hs
    simp only [codeOk] at hk
    simp only [aCode] at h
    unfold exitX at h
    split at h
    · rename_i v s hl
      cases h
      exact loop_ok (fun st st1 c a hr hs => restrict_ok h0 hs hr) (fun st e1 st1 c a hb hs => ih m st e1 st1 c a hk hb hs) hl hs
    · rename_i e1 s hnp hl
      split at h
      · rename_i s' hr
        cases h
        refine wp_mono (loop_ok (fun st st1 c a hr hs => restrict_ok h0 hs hr) (fun st e1 st1 c a hb hs => ih m st e1 st1 c a hk hb hs) hl hs) ?_
        rintro ex a' w' ⟨c1, hw, hs1, hex⟩
        obtain ⟨c2, hw2, hs2⟩ := restrict_ok h0 hs1 hr
        refine ⟨c2, hw2.trans hw, hs2, ?_⟩
        cases e with
        | norm => exact hex
        | exit id => exact hex
        | ret => exact hex
        | pan v => exact (hnp v rfl).elim
      · cases h
    · cases h
  | _ => intro m st e st' c a hk h hs; simp [aCode] at h

end
end Go.Ab
