/- The evaluator in its tests' order: an operation, a region, code, functions. -/
import Derived.Test.YtihgfpggdkhhaaaAbK
set_option linter.unusedVariables false
set_option linter.unusedSimpArgs false
namespace Go.Ab
open Go

section
variable {R : Type} {P : Program}

theorem opK_ok {cfg : Cfg} {callF : CallF} {callK : CallK R} (hC : ∀ f args out (K : Ret → Option R) r, callK f args out K = some r → ∃ q, callF f args out = some q ∧ K q = some r)
    {f : FuncId} {st : St} {o : Oper} {K : Res → Option R} {r : R} (h : opK P cfg callF callK f st o K = some r) : ∃ v, aOp P cfg callF st o = some v ∧ K v = some r := by
  have pvv : ∀ {x : Option AV}, (∃ v, x = some v ∧ K (.val v []) = some r) → ∃ v, pv x = some v ∧ K v = some r := fun ⟨v, h1, h2⟩ => ⟨_, by rw [h1]; rfl, h2⟩
  obtain ⟨dst, op, type, pos, after, guard⟩ := o
  unfold opK at h
  split at h
  · rename_i c a b hop
    simp only at hop; subst hop
    simp only [aOp]
    split at h
    · rename_i t ht
      simp only [ht]
      rcases bK_inv h with ⟨h1, h2⟩ | ⟨h1, h2⟩
      · subst h1; exact ⟨_, rfl, h2⟩
      · subst h1; exact ⟨_, rfl, h2⟩
    · cases h
  · rename_i hop; simp only at hop; subst hop
    exact pvv (loadK_ok h)
  · rename_i hop; simp only at hop; subst hop
    obtain ⟨ds, h1, h2⟩ := storeK_ok h
    exact ⟨_, by simp only [aOp, h1], h2⟩
  · rename_i hop; simp only at hop; subst hop
    split at h
    · rename_i hq
      simp only [aOp]
      rw [if_pos hq]
      exact pvv (binK_ok h)
    · rename_i hq
      simp only [aOp]
      rw [if_neg hq]
      split at h
      · rename_i v hv
        exact pvv ⟨v, hv, h⟩
      · cases h
  · rename_i hop; simp only at hop; subst hop
    exact convK_ok h
  · rename_i hop; simp only at hop; subst hop
    exact mkSliceK_ok h
  · rename_i hop; simp only at hop; subst hop
    exact buildSliceK_ok h
  · rename_i hop; simp only at hop; subst hop
    exact pvv (sliceK_ok h)
  · rename_i hop; simp only at hop; subst hop
    exact pvv (fieldAddrK_ok h)
  · rename_i hop; simp only at hop; subst hop
    exact pvv (idxAddrK_ok h)
  · rename_i hop; simp only at hop; subst hop
    exact pvv (idxK_ok h)
  · rename_i hop; simp only at hop; subst hop
    split at h
    · rename_i g first captured hg
      simp only [aOp, hg]
      unfold callValK at h
      unfold aCall
      obtain ⟨⟨args2, ks, out⟩, hci, h⟩ := callInK_ok h
      obtain ⟨q, h1, h2⟩ := hC _ _ _ _ _ h
      simp only [hci, h1]
      split at h2
      · rename_i hl
        rw [hl]
        exact callOut1_ok (by simp [freeze]) h2
      · rename_i b l hl
        rw [hl]
        rcases bK_inv h2 with ⟨h3, h4⟩ | ⟨h3, h4⟩
        · exact callOut1_ok (by rw [h3]; rfl) h4
        · exact callOut1_ok (by rw [h3]; rfl) h4
    · cases h
  · rename_i hop; simp only at hop; subst hop
    split at h
    · rename_i t ts x xs h1 h2
      obtain ⟨v, h3, h4⟩ := lenK_ok h
      refine ⟨_, ?_, h4⟩
      simp only [aOp, h1, h2, aBuiltin, List.map_cons, h3]
    · cases h
  · rename_i hop; simp only at hop; subst hop
    split at h
    · rename_i sT xT s x h1 h2
      obtain ⟨v, h3, h4⟩ := appendK_ok h
      refine ⟨_, ?_, h4⟩
      simp only [aOp, h1, h2, aBuiltin, List.map_cons, List.map_nil, h3]
    · cases h
  · rename_i hop; simp only at hop; subst hop
    split at h
    · rename_i t ts x xs h1 h2
      obtain ⟨v, h3, h4⟩ := clearK_ok h
      refine ⟨_, ?_, h4⟩
      simp only [aOp, h1, h2, aBuiltin, List.map_cons, h3]
    · cases h
  · rename_i hop; simp only at hop; subst hop
    split at h
    · rename_i dT tt s x h1 h2
      obtain ⟨v, h3, h4⟩ := copyK_ok h
      refine ⟨_, ?_, h4⟩
      simp only [aOp, h1, h2, aBuiltin, List.map_cons, List.map_nil, h3]
    · cases h
  · rename_i hop; simp only at hop; subst hop
    exact nilChkK_ok h
  · exact mr_inv h

def setFr : List (Nat × AV) → Nat → AV → List (Nat × AV)
  | [], _, _ => []
  | (j, a) :: r, i, v => if j = i then (j, v) :: r else (j, a) :: setFr r i v

theorem setFr_same : ∀ {fr : List (Nat × AV)} {i : Nat} {v : AV}, look fr i = some v → setFr fr i v = fr
  | [], _, _, h => by cases h
  | (j, a) :: r, i, v, h => by
    unfold setFr
    unfold look at h
    split at h
    · rename_i hj; cases h; rw [if_pos hj]
    · rename_i hj; rw [if_neg hj, setFr_same h]

/-- A test's outcome is known from here on. -/
def St.know (st : St) (x : Operand) (b : Bool) : St :=
  match x with
  | .tmp t => { st with fr := setFr st.fr t (.bool b) }
  | _ => st

theorem know_same {st : St} {x : Operand} {b : Bool} (h : st.ev x = .bool b) : st.know x b = st := by
  unfold St.know
  split
  · rename_i t
    simp only [St.ev] at h
    cases hl : look st.fr t with
    | none => rw [hl] at h; cases h
    | some v => rw [hl] at h; cases h; rw [setFr_same hl]
  · rfl

def wantedK (ops : Array Oper) (st : St) (o : Oper) (X Y : St → Option R) : Option R :=
  match o.guard with
  | none => X st
  | some (j, want) => match ops[j]? with
    | some g => match g.dst with
      | some d => match (look st.fr d).getD .undef with
        | .bool b => if want then bK b (X (st.know (.tmp d) true)) (Y (st.know (.tmp d) false)) else bK b (Y (st.know (.tmp d) true)) (X (st.know (.tmp d) false))
        | .skp => Y st
        | _ => none
      | none => Y st
    | none => Y st

theorem wantedK_ok {ops : Array Oper} {st : St} {o : Oper} {X Y : St → Option R} {r : R} (h : wantedK ops st o X Y = some r) :
    (aWanted ops st o = some true ∧ X st = some r) ∨ (aWanted ops st o = some false ∧ Y st = some r) := by
  unfold wantedK at h
  unfold aWanted
  split at h
  · rename_i hg; rw [hg]; exact .inl ⟨rfl, h⟩
  · rename_i j want hg
    rw [hg]
    simp only
    split at h
    · rename_i g hgj
      simp only [hgj]
      split at h
      · rename_i d hd
        simp only [hd]
        split at h
        · rename_i b hb
          simp only [hb]
          have hev : st.ev (.tmp d) = .bool b := hb
          cases want with
          | true =>
            rw [if_pos rfl] at h
            rcases bK_inv h with ⟨h1, h2⟩ | ⟨h1, h2⟩
            · subst h1; rw [know_same hev] at h2; exact .inl ⟨rfl, h2⟩
            · subst h1; rw [know_same hev] at h2; exact .inr ⟨rfl, h2⟩
          | false =>
            rw [if_neg (by decide)] at h
            rcases bK_inv h with ⟨h1, h2⟩ | ⟨h1, h2⟩
            · subst h1; rw [know_same hev] at h2; exact .inr ⟨rfl, h2⟩
            · subst h1; rw [know_same hev] at h2; exact .inl ⟨rfl, h2⟩
        · rename_i hb; simp only [hb]; exact .inr ⟨trivial, h⟩
        · cases h
      · rename_i hd; simp only [hd]; exact .inr ⟨trivial, h⟩
    · rename_i hgj; simp only [hgj]; exact .inr ⟨trivial, h⟩

/-- A number, by cases. -/
def splV (m : Nat) (v : AV) (K : AV → Option R) : Option R :=
  match m with
  | 0 => K v
  | m + 1 => match v with
    | .int k n => splitK n (m + 1) 0 fun j => K (.int k (j : Int))
    | .bool b => bK b (K (.bool true)) (K (.bool false))
    | v => K v

theorem splV_ok {m : Nat} {v : AV} {K : AV → Option R} {r : R} (h : splV m v K = some r) : K v = some r := by
  unfold splV at h
  split at h
  · exact h
  · split at h
    · obtain ⟨j, rfl, _, _, h⟩ := splitK_ok h
      exact h
    · rcases bK_inv h with ⟨h1, h2⟩ | ⟨h1, h2⟩
      · rw [h1]; exact h2
      · rw [h1]; exact h2
    · exact h

def splOf (cfg : Cfg) (f : FuncId) (d : Option Tmp) : Nat := match d with
  | some t => cfg.spl f t
  | none => 0

/-- What it reads, where lists are not known. -/
def readsC (cfg : Cfg) (st : St) (o : Oper) (K : List Nat → Option R) : Option R :=
  match o.op with
  | .call { callee := .value f, args, .. } => match st.ev f with
    | .fn g first captured => mapK (argOfK st.bs (cfg.byref g)) (first ++ args.toList.map st.ev ++ captured) fun args1 =>
        K ((first ++ args.toList.map st.ev ++ captured).flatMap rowsA ++ closeR st.bs 3 (addNew [] (args1.flatMap refsA)) ++ ownK o.dst)
    | _ => K []
  | _ => K (readsK cfg st o)

theorem readsC_ok {cfg : Cfg} {st : St} {o : Oper} {K : List Nat → Option R} {r : R} (h : readsC cfg st o K = some r) : K (readsK cfg st o) = some r := by
  obtain ⟨dst, op, type, pos, after, guard⟩ := o
  unfold readsC at h
  split at h
  · rename_i f args _ hop
    simp only at hop; subst hop
    unfold readsK
    simp only
    split at h
    · rename_i g first captured hg
      obtain ⟨args1, h1, h2⟩ := mapK_ok argOfK_ok h
      simp only [hg, callReads, h1]
      exact h2
    · rename_i hn
      split
      · rename_i g first captured hg
        exact absurd hg (hn _ _ _)
      · exact h
  · exact h

def opsK (P : Program) (cfg : Cfg) (callF : CallF) (callK : CallK R) (f : FuncId) (n : Nat) (ops : Array Oper) (trk : Bool) : Nat → List Oper → St → Trk → (Ex → St → Trk → Option R) → Option R
  | _, [], st, t, K => K .norm st t
  | i, o :: rest, st, t, K =>
    wantedK ops st o (fun st => opK P cfg callF callK f st o fun
        | .val v ds => splV (splOf cfg f o.dst) v fun v => match st.put n o.dst v ds with
          | some st' => if trk then readsC cfg st o fun rd => opsK P cfg callF callK f n ops trk (i + 1) rest st' ((i, rd, keysOf ds) :: t) K else opsK P cfg callF callK f n ops trk (i + 1) rest st' t K
          | none => none
        | .dfr g args => match st.put n o.dst .skp [] with
          | some st' => opsK P cfg callF callK f n ops trk (i + 1) rest { st' with df := (g, args) :: st'.df } t K
          | none => none
        | .pan v ds => K (.pan v) { st with bs := ds ++ st.bs } t)
      (fun st => match st.put n o.dst .skp [] with
        | some st' => opsK P cfg callF callK f n ops trk (i + 1) rest st' t K
        | none => none)

theorem opsK_ok {cfg : Cfg} {callF : CallF} {callK : CallK R} (hC : ∀ f args out (K : Ret → Option R) r, callK f args out K = some r → ∃ q, callF f args out = some q ∧ K q = some r)
    {f : FuncId} {n : Nat} {ops : Array Oper} {trk : Bool} : ∀ {rest : List Oper} {i : Nat} {st : St} {t : Trk} {K : Ex → St → Trk → Option R} {r : R}, opsK P cfg callF callK f n ops trk i rest st t K = some r →
      ∃ e st' t', aOps P cfg callF n ops trk i rest st t = some (e, st', t') ∧ K e st' t' = some r
  | [], i, st, t, K, r, h => ⟨_, _, _, rfl, h⟩
  | o :: rest, i, st, t, K, r, h => by
    unfold opsK at h
    unfold aOps
    rcases wantedK_ok h with ⟨h1, h2⟩ | ⟨h1, h2⟩
    · simp only [h1]
      obtain ⟨v, h3, h4⟩ := opK_ok hC h2
      simp only [h3]
      split at h4
      · simp only
        have h4 := splV_ok h4
        split at h4
        · rename_i hp
          simp only [hp]
          split at h4
          · rename_i ht
            have h4 := readsC_ok h4
            rw [if_pos ht]
            exact opsK_ok hC h4
          · rename_i ht
            rw [if_neg ht]
            exact opsK_ok hC h4
        · cases h4
      · simp only
        split at h4
        · rename_i hp; simp only [hp]; exact opsK_ok hC h4
        · cases h4
      · exact ⟨_, _, _, rfl, h4⟩
    · simp only [h1]
      split at h2
      · rename_i hp; simp only [hp]; exact opsK_ok hC h2
      · cases h2

/-- The operations of a region whose order is drawn: to the end, or to the one that throws. -/
def opsRK (P : Program) (cfg : Cfg) (callF : CallF) (callK : CallK R) (f : FuncId) (n : Nat) (ops : Array Oper) (trk : Bool) (Kp : Nat → St → Option R) : Nat → List Oper → St → Trk → (St → Trk → Option R) → Option R
  | _, [], st, t, K => K st t
  | i, o :: rest, st, t, K =>
    wantedK ops st o (fun st => opK P cfg callF callK f st o fun
        | .val v ds => splV (splOf cfg f o.dst) v fun v => match st.put n o.dst v ds with
          | some st' => if trk then readsC cfg st o fun rd => opsRK P cfg callF callK f n ops trk Kp (i + 1) rest st' ((i, rd, keysOf ds) :: t) K else opsRK P cfg callF callK f n ops trk Kp (i + 1) rest st' t K
          | none => none
        | .dfr g args => match st.put n o.dst .skp [] with
          | some st' => opsRK P cfg callF callK f n ops trk (fun _ _ => none) (i + 1) rest { st' with df := (g, args) :: st'.df } t K
          | none => none
        | .pan _ _ => Kp i st)
      (fun st => match st.put n o.dst .skp [] with
        | some st' => opsRK P cfg callF callK f n ops trk Kp (i + 1) rest st' t K
        | none => none)

theorem opsRK_ok {cfg : Cfg} {callF : CallF} {callK : CallK R} (hC : ∀ f args out (K : Ret → Option R) r, callK f args out K = some r → ∃ q, callF f args out = some q ∧ K q = some r)
    {f : FuncId} {n : Nat} {ops : Array Oper} {trk : Bool} : ∀ {rest : List Oper} {Kp : Nat → St → Option R} {i : Nat} {st : St} {t : Trk} {K : St → Trk → Option R} {r : R}, opsRK P cfg callF callK f n ops trk Kp i rest st t K = some r →
      (∃ st' t', aOps P cfg callF n ops trk i rest st t = some (.norm, st', t') ∧ K st' t' = some r) ∨
      (∃ p stp v sp t', aOps P cfg callF n ops trk i rest st t = some (.pan v, sp, t') ∧ aOpsP P cfg callF n ops i rest st = some (p, stp) ∧ Kp p stp = some r)
  | [], Kp, i, st, t, K, r, h => .inl ⟨_, _, rfl, h⟩
  | o :: rest, Kp, i, st, t, K, r, h => by
    unfold opsRK at h
    unfold aOps aOpsP
    rcases wantedK_ok h with ⟨h1, h2⟩ | ⟨h1, h2⟩
    · simp only [h1]
      obtain ⟨v, h3, h4⟩ := opK_ok hC h2
      simp only [h3]
      split at h4
      · simp only
        have h4 := splV_ok h4
        split at h4
        · rename_i hp
          simp only [hp]
          split at h4
          · rename_i ht
            have h4 := readsC_ok h4
            rw [if_pos ht]
            exact opsRK_ok hC h4
          · rename_i ht
            rw [if_neg ht]
            exact opsRK_ok hC h4
        · cases h4
      · simp only
        split at h4
        · rename_i hp
          simp only [hp]
          rcases opsRK_ok hC h4 with h5 | ⟨p, stp, v, sp, t', _, _, h6⟩
          · exact .inl h5
          · cases h6
        · cases h4
      · exact .inr ⟨_, _, _, _, _, rfl, rfl, h4⟩
    · simp only [h1]
      split at h2
      · rename_i hp; simp only [hp]; exact opsRK_ok hC h2
      · cases h2

/-- Where one has thrown. -/
def panK (P : Program) (cfg : Cfg) (callF : CallF) (callK : CallK R) (f : FuncId) (dyn : List (Nat × Nat)) (ops : Array Oper) (st : St) (K : Ex → St → Option R) (p : Nat) (stp : St) : Option R :=
  match ops[p]? with
  | some o =>
    if panOk dyn ops p = true ∧ stp.df.length = st.df.length then
      wantedK ops { stp with fr := stp.fr.filter fun x => knownAt ops p x.1 } o (fun stq => opK P cfg callF callK f stq o fun
        | .pan v ds => K (.pan v) { stq with bs := ds ++ stq.bs }
        | _ => none) (fun _ => none)
    else none
  | none => none

theorem panK_ok {cfg : Cfg} {callF : CallF} {callK : CallK R} (hC : ∀ f args out (K : Ret → Option R) r, callK f args out K = some r → ∃ q, callF f args out = some q ∧ K q = some r)
    {f n : Nat} {dyn : List (Nat × Nat)} {ops : Array Oper} {st : St} {K : Ex → St → Option R} {p : Nat} {stp : St} {r : R} (h : panK P cfg callF callK f dyn ops st K p stp = some r) (hp : aOpsP P cfg callF n ops 0 ops.toList st = some (p, stp)) :
    ∃ e st', aRegP P cfg callF dyn n ops st = some (e, st') ∧ K e st' = some r := by
  unfold panK at h
  unfold aRegP
  simp only [hp]
  split at h
  · rename_i o ho
    simp only [ho]
    split at h
    · rename_i hc
      rw [if_pos hc]
      rcases wantedK_ok h with ⟨h1, h2⟩ | ⟨_, h2⟩
      · simp only [h1]
        obtain ⟨v, h3, h4⟩ := opK_ok hC h2
        simp only [h3]
        split at h4
        · exact ⟨_, _, rfl, h4⟩
        · cases h4
      · cases h2
    · cases h
  · cases h

def regionK (P : Program) (cfg : Cfg) (callF : CallF) (callK : CallK R) (f : FuncId) (n : Nat) (id : Nat) (ops : Array Oper) (draw : Bool) (st : St) (K : Ex → St → Option R) : Option R :=
  if draw then
    match cfg.dyn f id with
    | [] => opsRK P cfg callF callK f n ops false (panK P cfg callF callK f [] ops st K) 0 ops.toList st [] fun st' _ => if st'.df.length = st.df.length then K .norm st' else none
    | p :: ps => opsRK P cfg callF callK f n ops true (panK P cfg callF callK f (p :: ps) ops st K) 0 ops.toList st [] fun st' t => if dynOk t (p :: ps) = true ∧ st'.df.length = st.df.length then K .norm st' else none
  else opsK P cfg callF callK f n ops false 0 ops.toList st [] fun e st' _ => K e st'

theorem regionK_ok {cfg : Cfg} {callF : CallF} {callK : CallK R} (hC : ∀ f args out (K : Ret → Option R) r, callK f args out K = some r → ∃ q, callF f args out = some q ∧ K q = some r)
    {f n id : Nat} {ops : Array Oper} {draw : Bool} {st : St} {K : Ex → St → Option R} {r : R} (h : regionK P cfg callF callK f n id ops draw st K = some r) :
    ∃ e st', aRegion P cfg callF f n id ops draw st = some (e, st') ∧ K e st' = some r := by
  unfold regionK at h
  unfold aRegion
  split at h
  · rename_i hd
    rw [if_pos hd]
    split at h
    · rename_i hdy
      simp only [hdy]
      rcases opsRK_ok hC h with ⟨st', t', h1, h2⟩ | ⟨p, stp, v, sp, t', h1, h2, h3⟩
      · split at h2
        · rename_i hl; simp only [h1, hl, if_true]; exact ⟨_, _, rfl, h2⟩
        · cases h2
      · simp only [h1]
        exact panK_ok hC h3 h2
    · rename_i hdy
      simp only [hdy]
      rcases opsRK_ok hC h with ⟨st', t', h1, h2⟩ | ⟨p, stp, v, sp, t', h1, h2, h3⟩
      · split at h2
        · rename_i hl; simp only [h1]; rw [if_pos hl]; exact ⟨_, _, rfl, h2⟩
        · cases h2
      · simp only [h1]
        exact panK_ok hC h3 h2
  · rename_i hd
    rw [if_neg hd]
    obtain ⟨e, st', t', h1, h2⟩ := opsK_ok hC h
    simp only [h1]
    exact ⟨_, _, rfl, h2⟩

/-- What is told of a loop. -/
structure LP where
  D : Type
  dec : St → Option D
  out : D → Alt (Ex × St)

abbrev LPs := FuncId → Nat → Option LP

def loopK (res : St → Option St) (body : St → (Ex → St → Option R) → Option R) : Nat → St → (Ex → St → Option R) → Option R
  | 0, _, _ => none
  | k + 1, st, K =>
    match res st with
    | none => none
    | some st => body st fun e st' => match e with
      | .norm => loopK res body k st' K
      | e => K e st'

theorem loopK_ok {res : St → Option St} {body : St → (Ex → St → Option R) → Option R} {bodyF : St → Option (Ex × St)} (hb : ∀ st K r, body st K = some r → ∃ e st', bodyF st = some (e, st') ∧ K e st' = some r) :
    ∀ {k : Nat} {st : St} {K : Ex → St → Option R} {r : R}, loopK res body k st K = some r → ∃ e st', aLoop res bodyF k st = some (e, st') ∧ K e st' = some r
  | 0, _, _, _, h => by cases h
  | k + 1, st, K, r, h => by
    unfold loopK at h
    unfold aLoop
    split at h
    · cases h
    · rename_i st1 hr
      simp only [hr]
      obtain ⟨e, st', h1, h2⟩ := hb _ _ _ h
      simp only [h1]
      cases e with
      | norm => exact loopK_ok hb h2
      | exit j => exact ⟨_, _, rfl, h2⟩
      | ret => exact ⟨_, _, rfl, h2⟩
      | pan v => exact ⟨_, _, rfl, h2⟩

def exitK (res : St → Option St) (e : Ex) (st : St) (K : Ex → St → Option R) : Option R :=
  match e with
  | .pan v => K (.pan v) st
  | e => match res st with
    | some s => K e s
    | none => none

theorem exitK_ok {res : St → Option St} {e : Ex} {st : St} {K : Ex → St → Option R} {r : R} (h : exitK res e st K = some r) : ∃ e' st', exitX res (some (e, st)) = some (e', st') ∧ K e' st' = some r := by
  unfold exitK at h
  cases e with
  | pan v => exact ⟨_, _, rfl, h⟩
  | norm =>
    simp only at h
    cases hr : res st with
    | none => rw [hr] at h; cases h
    | some s => rw [hr] at h; exact ⟨_, s, by simp only [exitX, hr], h⟩
  | ret =>
    simp only at h
    cases hr : res st with
    | none => rw [hr] at h; cases h
    | some s => rw [hr] at h; exact ⟨_, s, by simp only [exitX, hr], h⟩
  | exit id =>
    simp only at h
    cases hr : res st with
    | none => rw [hr] at h; cases h
    | some s => rw [hr] at h; exact ⟨_, s, by simp only [exitX, hr], h⟩

def codeK (P : Program) (cfg : Cfg) (callF : CallF) (callK : CallK R) (lp : LPs) (f : FuncId) (n : Nat) : Nat → Code → St → (Ex → St → Option R) → Option R
  | _, .skip, st, K => K .norm st
  | _, .region id ops draw, st, K => regionK P cfg callF callK f n id ops draw st K
  | c, .seq a b, st, K => codeK P cfg callF callK lp f n c a st fun e st' => match e with
    | .norm => codeK P cfg callF callK lp f n c b st' K
    | e => K e st'
  | c, .cond x a b, st, K => match st.ev x with
    | .bool t => bK t (codeK P cfg callF callK lp f n c a (st.know x true) K) (codeK P cfg callF callK lp f n c b (st.know x false) K)
    | _ => none
  | _, .block id b, st, K => codeK P cfg callF callK lp f n id b st fun e st' => match e with
    | .exit j => if j = id then K .norm st' else K (.exit j) st'
    | e => K e st'
  | c, .loop b, st, K => match lp f c with
    | some L => match restrict (cfg.keep f c) st with
      | some st1 => oK (L.dec st1) fun d => altK (L.out d) fun r => K r.1 r.2
      | none => none
    | none => loopK (restrict (cfg.keep f c)) (codeK P cfg callF callK lp f n c b) rounds st fun e st' => exitK (restrict (cfg.keepX f c)) e st' K
  | _, .exit id, st, K => K (.exit id) st
  | _, .ret, st, K => K .ret st
  | _, .label _, st, K => K .norm st
  | _, _, _, _ => none

/-- Code within code, and the block that it stands in. -/
inductive At : Nat → Code → Nat → Code → Prop
  | here (c : Nat) (b : Code) : At c b c b
  | seqL {c c' : Nat} {a b x : Code} (h : At c a c' x) : At c (.seq a b) c' x
  | seqR {c c' : Nat} {a b x : Code} (h : At c b c' x) : At c (.seq a b) c' x
  | condL {c c' : Nat} {o : Operand} {a b x : Code} (h : At c a c' x) : At c (.cond o a b) c' x
  | condR {c c' : Nat} {o : Operand} {a b x : Code} (h : At c b c' x) : At c (.cond o a b) c' x
  | block {c c' id : Nat} {b x : Code} (h : At id b c' x) : At c (.block id b) c' x
  | loop {c c' : Nat} {b x : Code} (h : At c b c' x) : At c (.loop b) c' x

/-- All that is told of loops is so. -/
def LoopsOk (P : Program) (cfg : Cfg) (callF : CallF) (lp : LPs) (f n : Nat) (c0 : Nat) (code : Code) : Prop :=
  ∀ c b L, At c0 code c (.loop b) → lp f c = some L → ∀ st st1 d, restrict (cfg.keep f c) st = some st1 → L.dec st1 = some d → exitX (restrict (cfg.keepX f c)) (aLoop (restrict (cfg.keep f c)) (aCode P cfg callF f n c b) rounds st) = some (L.out d).val

theorem codeK_ok {cfg : Cfg} {callF : CallF} {callK : CallK R} (hC : ∀ f args out (K : Ret → Option R) r, callK f args out K = some r → ∃ q, callF f args out = some q ∧ K q = some r)
    {lp : LPs} {f n : Nat} : ∀ {code : Code} {c : Nat} (_ : LoopsOk P cfg callF lp f n c code) {st : St} {K : Ex → St → Option R} {r : R}, codeK P cfg callF callK lp f n c code st K = some r →
      ∃ e st', aCode P cfg callF f n c code st = some (e, st') ∧ K e st' = some r
  | .skip, c, hl, st, K, r, h => ⟨_, _, rfl, h⟩
  | .region id ops draw, c, hl, st, K, r, h => by
    unfold aCode
    unfold codeK at h
    exact regionK_ok hC h
  | .seq a b, c, hl, st, K, r, h => by
    unfold codeK at h
    obtain ⟨e, st', h1, h2⟩ := codeK_ok hC (fun c' b' L ha => hl c' b' L (.seqL ha)) h
    unfold aCode
    simp only [h1]
    cases e with
    | norm => exact codeK_ok hC (fun c' b' L ha => hl c' b' L (.seqR ha)) h2
    | exit j => exact ⟨_, _, rfl, h2⟩
    | ret => exact ⟨_, _, rfl, h2⟩
    | pan v => exact ⟨_, _, rfl, h2⟩
  | .cond x a b, c, hl, st, K, r, h => by
    unfold codeK at h
    unfold aCode
    split at h
    · rename_i t ht
      simp only [ht]
      rcases bK_inv h with ⟨h1, h2⟩ | ⟨h1, h2⟩
      · subst h1
        rw [know_same ht] at h2
        exact codeK_ok hC (fun c' b' L ha => hl c' b' L (.condL ha)) h2
      · subst h1
        rw [know_same ht] at h2
        exact codeK_ok hC (fun c' b' L ha => hl c' b' L (.condR ha)) h2
    · cases h
  | .block id b, c, hl, st, K, r, h => by
    unfold codeK at h
    obtain ⟨e, st', h1, h2⟩ := codeK_ok hC (fun c' b' L ha => hl c' b' L (.block ha)) h
    unfold aCode
    simp only [h1]
    cases e with
    | norm => exact ⟨_, _, rfl, h2⟩
    | exit j =>
      simp only at h2 ⊢
      split at h2
      · rename_i hj; rw [if_pos hj]; exact ⟨_, _, rfl, h2⟩
      · rename_i hj; rw [if_neg hj]; exact ⟨_, _, rfl, h2⟩
    | ret => exact ⟨_, _, rfl, h2⟩
    | pan v => exact ⟨_, _, rfl, h2⟩
  | .loop b, c, hl, st, K, r, h => by
    unfold codeK at h
    unfold aCode
    split at h
    · rename_i L hL
      split at h
      · rename_i st1 hr
        obtain ⟨d, h1, h2⟩ := oK_inv h
        exact ⟨_, _, hl _ _ L (.here _ _) hL _ _ d hr h1, altK_ok h2⟩
      · cases h
    · obtain ⟨e, st', h1, h2⟩ := loopK_ok (fun st K r h => codeK_ok hC (fun c' b' L ha => hl c' b' L (.loop ha)) h) h
      rw [h1]
      exact exitK_ok h2
  | .exit id, c, hl, st, K, r, h => ⟨_, _, rfl, h⟩
  | .ret, c, hl, st, K, r, h => ⟨_, _, rfl, h⟩
  | .label _, c, hl, st, K, r, h => ⟨_, _, rfl, h⟩
  | .rangeFunc .., _, _, _, _, _, h => by cases h
  | .goto .., _, _, _, _, _, h => by cases h
  | .scope _, _, _, _, _, _, h => by cases h
  | .refuse _, _, _, _, _, _, h => by cases h
end
end Go.Ab
