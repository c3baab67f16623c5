/- What is read of a law's arguments: the theorem. -/
import Derived.Test.YtihgfpggdkhhaaaAbIn
set_option linter.unusedVariables false
set_option linter.unusedSimpArgs false
namespace Go.Ab
open Go

section
variable {P : Program} {H : Type} {enc : TypeId × Value → H} {W W' : World}

/-- What is read is of these kinds, and read so still. -/
def InOk (P : Program) (enc : TypeId × Value → H) (W W' : World) (fs : List Lf) (fuel : Nat) (t : TypeId) (cs : List Value) (y : DataW H × List MemPlace) : Prop :=
  (∃ as, HasL fs as ∧ AllPV W as cs) ∧ ∀ sp : Nat → Bool, (∀ p ∈ y.2, sp p.block = true) → DataW.trod enc P W' 0 sp true fuel t cs = some y

theorem slice_in (hk : ∀ i, i < W.heap.size → W'.heap[i]? = W.heap[i]?) {l : List Lf} {agg : Bool} {t e : TypeId} (ht : P.underlying t = some (.slice e)) (hl : l.length = P.cellsOf e) (hz : l.length ≠ 0) (hagg : (agg || l.length == 1) = true) {fuel : Nat}
    (ih : ∀ cs y, DataW.trod enc P W 0 (fun _ => true) true fuel e cs = some y → InOk P enc W W' l fuel e cs y) {a : Addr} {len cap : Nat} {y : DataW H × List MemPlace}
    (h : DataW.trod enc P W 0 (fun _ => true) true (fuel + 1) t [.slice (some a) len cap] = some y) : InOk P enc W W' [.fl agg l] (fuel + 1) t [.slice (some a) len cap] y := by
  have hz' : P.cellsOf e ≠ 0 := by omega
  unfold DataW.trod at h
  simp only [ht, if_true] at h
  split at h
  case isFalse => cases h
  rename_i hcond
  obtain ⟨_, hlc, hmax⟩ := hcond
  cases hel : (List.range len).mapM (fun i => (W.cells? 0 (a.add (i * P.cellsOf e)) (P.cellsOf e)).bind (DataW.trod enc P W 0 (fun _ => true) true fuel e)) with
  | none => simp [hel] at h
  | some elems =>
  cases hre : (List.range (cap - len)).mapM (fun j => (W.cells? 0 (a.add ((len + j) * P.cellsOf e)) (P.cellsOf e)).bind (DataW.trod enc P W 0 (fun _ => true) true fuel e)) with
  | none => simp [hel, hre] at h
  | some rest =>
  simp [hel, hre] at h
  obtain ⟨e1, e2⟩ := mapM_range0 hel
  obtain ⟨r1, r2⟩ := mapM_range0 hre
  have helem : ∀ i, i < len → ∃ d : Tu l, Tu.wf l d ∧ ∃ cs, W.cells? 0 (a.add (i * P.cellsOf e)) (P.cellsOf e) = some cs ∧ AllPV W (Tu.mk l d) cs := by
    intro i hi
    have := e2 i elems[i] (List.getElem?_eq_getElem (by omega))
    cases hc : W.cells? 0 (a.add (i * P.cellsOf e)) (P.cellsOf e) with
    | none => rw [hc] at this; cases this
    | some cs =>
      rw [hc] at this
      obtain ⟨⟨as, g1, g2⟩, _⟩ := ih cs _ this
      obtain ⟨d, k1, k2⟩ := hasL_tu g1
      subst k1
      exact ⟨d, k2, cs, rfl, g2⟩
  obtain ⟨ds, d1, d2⟩ := build len helem
  have hcells : ∀ v ∈ ds.map (mkV agg l), v.cells.length = P.cellsOf e := by
    intro v hv
    obtain ⟨d, _, rfl⟩ := List.mem_map.1 hv
    rw [mkV_cells hagg, Tu.mk_length, hl]
  have hk2 : ∀ k, k < len * P.cellsOf e → ∃ v, W.cell? ⟨a.block, a.off + k, none⟩ = some v ∧ ∀ c, ((ds.map (mkV agg l)).flatMap AV.cells)[k]? = some c → PV W (fun _ => False) c v := by
    intro k hkk
    obtain ⟨v, g1, g2⟩ := flatMap_getElem? hcells (k := k) (by simpa [d1] using hkk)
    rw [List.getElem?_map] at g1
    cases hd : ds[k / P.cellsOf e]? with
    | none => rw [hd] at g1; cases g1
    | some d =>
      rw [hd] at g1
      cases g1
      obtain ⟨_, cs, q1, q2⟩ := d2 _ d hd
      obtain ⟨q3, q4⟩ := cells_at q1
      have hm : k % P.cellsOf e < cs.length := by rw [q3]; exact Nat.mod_lt _ (by omega)
      have q5 := q4 _ _ (List.getElem?_eq_getElem hm)
      have hadd : (a.add (k / P.cellsOf e * P.cellsOf e)).add (k % P.cellsOf e) = ⟨a.block, a.off + k, if k = 0 then a.spot else none⟩ := by
        have hdm := Nat.div_add_mod k (P.cellsOf e)
        rw [Nat.mul_comm] at hdm
        unfold Addr.add
        by_cases h0 : k / P.cellsOf e * P.cellsOf e = 0
        · rw [if_pos h0]
          by_cases h1 : k % P.cellsOf e = 0
          · rw [if_pos h1]
            have : k = 0 := by omega
            subst this
            simp
          · rw [if_neg h1]
            have : k ≠ 0 := by intro hh; subst hh; simp at h1
            rw [if_neg this]
            congr 1
            omega
        · rw [if_neg h0]
          have : k ≠ 0 := by intro hh; subst hh; simp at h0
          by_cases h1 : k % P.cellsOf e = 0
          · rw [if_pos h1, if_neg this]
            congr 1
            omega
          · rw [if_neg h1, if_neg this]
            simp only
            congr 1
            omega
      rw [hadd] at q5
      refine ⟨cs[k % P.cellsOf e], ?_, fun c hc => ?_⟩
      · by_cases h0 : k = 0
        · subst h0
          simp only [if_true] at q5
          have : a.spot = none := by
            unfold World.cell? at q5
            split at q5
            · split at q5
              · cases q5
              · rename_i hs; simpa using hs
            · cases q5
          rw [this] at q5
          exact q5
        · rw [if_neg h0] at q5; exact q5
      · rw [g2, mkV_cells hagg] at hc
        exact q2.2 _ _ _ hc (List.getElem?_eq_getElem hm)
  obtain ⟨vals, v1, v2⟩ := build _ hk2
  constructor
  · refine ⟨[.slc (decide (cap = len)) (ds.map (mkV agg l))], ⟨⟨(decide (cap = len), ds), rfl, ?_, ?_⟩, trivial⟩, AllPV.one ?_⟩
    · have : (2 : Nat) ^ 63 - 1 = 9223372036854775807 := by decide
      simp only [maxLen] at hmax
      show ds.length ≤ _
      omega
    · intro d hd
      obtain ⟨i, hi⟩ := List.getElem?_of_mem hd
      exact (d2 i d hi).1
    · have hlen : (ds.map (mkV agg l)).length = len := by simp [d1]
      have := PV.slc (w := W) (F := fun _ => False) (decide (cap = len)) (ds.map (mkV agg l)) (some a) cap (P.cellsOf e) vals (fun hx => by rw [hlen]; simpa using hx) (by rw [hlen]; exact hlc)
        (fun v hv => ⟨hcells v hv, by
          obtain ⟨d, _, rfl⟩ := List.mem_map.1 hv
          rw [mkV_cells hagg]
          have : HasL l (Tu.mk l d) ∨ True := .inr trivial
          intro c hc
          exact mk_allC d c hc⟩)
        (fun hne => by
          have hlen0 : 0 < len * P.cellsOf e := by
            have : 0 < ds.length := by
              cases ds with
              | nil => simp at hne
              | cons => simp
            exact Nat.mul_pos (by omega) (by omega)
          have hds0 : 0 < ds.length := by
            cases ds with
            | nil => simp at hne
            | cons => simp
          obtain ⟨q1, _⟩ := v2 0 (vals[0]'(by omega)) (List.getElem?_eq_getElem (by omega))
          have hsp : a.spot = none := by
            obtain ⟨_, cs, q1, q2⟩ := d2 0 (ds[0]'hds0) (List.getElem?_eq_getElem hds0)
            obtain ⟨q3, q4⟩ := cells_at q1
            have hcs0 : 0 < cs.length := by omega
            have := q4 0 (cs[0]'hcs0) (List.getElem?_eq_getElem hcs0)
            simp [Addr.add] at this
            unfold World.cell? at this
            split at this
            · split at this
              · cases this
              · rename_i hs; simpa using hs
            · cases this
          refine ⟨a.block, a.off, ?_, ?_, fun h => h, fun k v hkv => (v2 k v hkv).1⟩
          · cases a; simp at hsp; subst hsp; rfl
          · unfold World.cell? at q1
            cases hb : W.heap[a.block]? with
            | none => rw [hb] at q1; cases q1
            | some o => exact (Array.getElem?_eq_some_iff.1 hb).1)
        (by rw [v1, flat_len hcells]; simp [d1])
        (fun k c v hc hv => (v2 k v hv).2 c hc)
      rw [hlen] at this
      exact this
  · intro sp hsp
    have hg : ∀ (y' : DataW H × List MemPlace), (∀ p ∈ y'.2, sp p.block = true) → ∀ cs, DataW.trod enc P W 0 (fun _ => true) true fuel e cs = some y' → DataW.trod enc P W' 0 sp true fuel e cs = some y' :=
      fun y' hy' cs hcs => (ih cs y' hcs).2 sp hy'
    subst h
    simp only [List.mem_append, List.mem_flatMap] at hsp
    have he' : (List.range len).mapM (fun i => (W'.cells? 0 (a.add (i * P.cellsOf e)) (P.cellsOf e)).bind (DataW.trod enc P W' 0 sp true fuel e)) = some elems :=
      mapM_mk hel fun i _ b hb hh => trod_bind hk hh (hg b fun p hp => hsp p (.inr (.inl ⟨b, hb, hp⟩)))
    have hr' : (List.range (cap - len)).mapM (fun j => (W'.cells? 0 (a.add ((len + j) * P.cellsOf e)) (P.cellsOf e)).bind (DataW.trod enc P W' 0 sp true fuel e)) = some rest :=
      mapM_mk hre fun i _ b hb hh => trod_bind hk hh (hg b fun p hp => hsp p (.inr (.inr ⟨b, hb, hp⟩)))
    unfold DataW.trod
    simp only [ht]
    rw [if_pos ⟨Nat.zero_le _, hlc, hmax⟩, he']
    by_cases hcap : cap - len = 0
    · rw [hcap] at hr' hre
      simp at hre
      subst hre
      simp [hcap]
    · have hs : sp a.block = true := by
        refine hsp (.cell a.block a.off) (.inl ?_)
        unfold MemPlace.row
        rw [List.mem_map]
        refine ⟨0, List.mem_range.2 (Nat.mul_pos (by omega) (by omega)), by simp⟩
      simp [hs, hr']

theorem AllPV.split {cs : List Value} {n : Nat} {as bs : List AV} (h : AllPV W as (cs.take n)) (h' : AllPV W bs (cs.drop n)) : AllPV W (as ++ bs) cs := by
  have := h.append h'
  rwa [List.take_append_drop] at this

theorem fields_in {rc : TypeId → Option (List Lf)} {fuel : Nat} (ih : ∀ t l, rc t = some l → ∀ cs y, DataW.trod enc P W 0 (fun _ => true) true fuel t cs = some y → InOk P enc W W' l fuel t cs y) {sz : Nat} {cs : List Value} (hcs : cs.length = sz) :
    ∀ {fs : List Field} {off : Nat} {l : List Lf}, fieldsC P rc sz fs off = some l → off ≤ sz → ∀ {xs : List (DataW H × List MemPlace)},
      (fs.mapM fun f => DataW.trod enc P W 0 (fun _ => true) true fuel f.type ((cs.drop f.offset).take (P.cellsOf f.type))) = some xs →
      (∃ as, HasL l as ∧ AllPV W as (cs.drop off)) ∧ ∀ sp : Nat → Bool, (∀ x ∈ xs, ∀ p ∈ x.2, sp p.block = true) →
        (fs.mapM fun f => DataW.trod enc P W' 0 sp true fuel f.type ((cs.drop f.offset).take (P.cellsOf f.type))) = some xs
  | [], off, l, hf, hoff, xs, hx => by
    unfold fieldsC at hf
    split at hf
    · rename_i ho
      cases hf
      refine ⟨⟨[], trivial, ?_⟩, fun sp _ => by simpa using hx⟩
      rw [List.drop_of_length_le (by omega)]
      exact AllPV.nil
    · cases hf
  | f :: r, off, l, hf, hoff, xs, hx => by
    unfold fieldsC at hf
    split at hf
    case isFalse => cases hf
    rename_i ho
    split at hf
    case h_2 => cases hf
    rename_i l1 hl1
    split at hf
    case isFalse => cases hf
    rename_i hlen
    split at hf
    case h_2 => cases hf
    rename_i m hm
    cases hf
    rw [List.mapM_cons] at hx
    cases h1 : DataW.trod enc P W 0 (fun _ => true) true fuel f.type ((cs.drop f.offset).take (P.cellsOf f.type)) with
    | none => simp [h1] at hx
    | some x =>
    cases h2 : (r.mapM fun f => DataW.trod enc P W 0 (fun _ => true) true fuel f.type ((cs.drop f.offset).take (P.cellsOf f.type))) with
    | none => simp [h1, h2] at hx
    | some q =>
    simp [h1, h2] at hx
    subst hx
    obtain ⟨⟨as, g1, g2⟩, g3⟩ := ih _ _ hl1 _ _ h1
    have hle : off + l1.length ≤ sz := by
      have e1 := g2.1
      rw [hasL_length g1, List.length_take, List.length_drop] at e1
      rw [ho] at e1
      by_cases h0 : l1.length = 0
      · omega
      · omega
    obtain ⟨⟨bs, g4, g5⟩, g6⟩ := fields_in ih hcs hm hle h2
    constructor
    · refine ⟨as ++ bs, hasL_append g1 g4, ?_⟩
      rw [ho, ← hlen] at g2
      refine AllPV.split (n := l1.length) g2 ?_
      rw [List.drop_drop]
      exact g5
    · intro sp hsp
      rw [List.mapM_cons, g3 sp (fun p hp => hsp x (by simp) p hp), g6 sp (fun y hy p hp => hsp y (by simp [hy]) p hp)]
      rfl

theorem array_in {l : List Lf} {e : TypeId} {fuel : Nat} (ih : ∀ cs y, DataW.trod enc P W 0 (fun _ => true) true fuel e cs = some y → InOk P enc W W' l fuel e cs y) (hl : l.length = P.cellsOf e) {cs : List Value} :
    ∀ {n k : Nat}, cs.length = (k + n) * P.cellsOf e → ∀ {xs : List (DataW H × List MemPlace)},
      ((List.range' k n).mapM fun i => DataW.trod enc P W 0 (fun _ => true) true fuel e ((cs.drop (i * P.cellsOf e)).take (P.cellsOf e))) = some xs →
      (∃ as, HasL (List.replicate n l).flatten as ∧ AllPV W as (cs.drop (k * P.cellsOf e))) ∧ ∀ sp : Nat → Bool, (∀ x ∈ xs, ∀ p ∈ x.2, sp p.block = true) →
        ((List.range' k n).mapM fun i => DataW.trod enc P W' 0 sp true fuel e ((cs.drop (i * P.cellsOf e)).take (P.cellsOf e))) = some xs
  | 0, k, hcs, xs, hx => by
    refine ⟨⟨[], trivial, ?_⟩, fun sp _ => by simpa using hx⟩
    rw [List.drop_of_length_le (by rw [hcs]; simp)]
    exact AllPV.nil
  | n + 1, k, hcs, xs, hx => by
    rw [List.range'_succ, List.mapM_cons] at hx
    cases h1 : DataW.trod enc P W 0 (fun _ => true) true fuel e ((cs.drop (k * P.cellsOf e)).take (P.cellsOf e)) with
    | none => simp [h1] at hx
    | some x =>
    cases h2 : ((List.range' (k + 1) n).mapM fun i => DataW.trod enc P W 0 (fun _ => true) true fuel e ((cs.drop (i * P.cellsOf e)).take (P.cellsOf e))) with
    | none => simp [h1, h2] at hx
    | some q =>
    simp [h1, h2] at hx
    subst hx
    obtain ⟨⟨as, g1, g2⟩, g3⟩ := ih _ _ h1
    obtain ⟨⟨bs, g4, g5⟩, g6⟩ := array_in ih hl (n := n) (k := k + 1) (by rw [hcs]; congr 1; omega) h2
    constructor
    · refine ⟨as ++ bs, ?_, ?_⟩
      · rw [List.replicate_succ, List.flatten_cons]
        exact hasL_append g1 g4
      · refine AllPV.split (n := P.cellsOf e) g2 ?_
        rw [List.drop_drop, ← Nat.succ_mul]
        exact g5
    · intro sp hsp
      rw [List.range'_succ, List.mapM_cons, g3 sp (fun p hp => hsp x (by simp) p hp), g6 sp (fun y hy p hp => hsp y (by simp [hy]) p hp)]
      rfl

theorem trod_in (hk : ∀ i, i < W.heap.size → W'.heap[i]? = W.heap[i]?) : ∀ (d : Nat) (t : TypeId) (l : List Lf), leafsC P d t = some l → ∀ (fuel : Nat) (cs : List Value) (y : DataW H × List MemPlace),
    DataW.trod enc P W 0 (fun _ => true) true fuel t cs = some y → InOk P enc W W' l fuel t cs y
  | 0, t, l, h, _, _, _, _ => by cases h
  | d + 1, t, l, h, 0, cs, y, hy => by cases hy
  | d + 1, t, l, h, fuel + 1, cs, y, hy => by
    unfold leafsC at h
    split at h
    · rename_i ht
      cases h
      have hy0 := hy
      unfold DataW.trod at hy
      rw [ht] at hy
      rcases cs with _ | ⟨v, _ | ⟨w, r⟩⟩
      · simp at hy
      · cases v <;> simp at hy
        rename_i b
        subst hy
        refine ⟨⟨[.bool b], ⟨⟨b, rfl, trivial⟩, trivial⟩, AllPV.one (.bool b)⟩, fun sp _ => ?_⟩
        unfold DataW.trod
        rw [ht]
      · simp at hy
    · rename_i k ht
      cases h
      unfold DataW.trod at hy
      rw [ht] at hy
      rcases cs with _ | ⟨v, _ | ⟨w, r⟩⟩
      · simp at hy
      · cases v <;> simp at hy
        rename_i k' n
        obtain ⟨⟨rfl, hwf⟩, rfl⟩ := hy
        refine ⟨⟨[.int k' n], ⟨⟨n, rfl, ?_⟩, trivial⟩, AllPV.one (.int k' n)⟩, fun sp _ => ?_⟩
        · have h5 : k'.min ≤ n ∧ n ≤ k'.max := by simpa [Lit.wf] using hwf
          exact h5
        · unfold DataW.trod
          rw [ht]
          simp [hwf]
      · simp at hy
    · rename_i ht
      cases h
      unfold DataW.trod at hy
      rw [ht] at hy
      rcases cs with _ | ⟨v, _ | ⟨w, r⟩⟩
      · simp at hy
      · cases v <;> simp at hy
        rename_i b
        obtain ⟨hsz, rfl⟩ := hy
        refine ⟨⟨[.str b.data.toList], ⟨⟨b.data.toList, rfl, ?_⟩, trivial⟩, AllPV.one ?_⟩, fun sp _ => ?_⟩
        · have : (2 : Nat) ^ 63 - 1 = 9223372036854775807 := by decide
          simp only [maxLen] at hsz
          show b.data.toList.length ≤ _
          have : b.data.toList.length = b.size := by rw [Array.length_toList]; rfl
          omega
        · have := PV.str (w := W) (F := fun _ => False) b.data.toList
          simpa using this
        · unfold DataW.trod
          rw [ht]
          simp [hsz]
      · simp at hy
    · rename_i e ht
      split at h
      · rename_i l' agg hl' hagg
        split at h
        · rename_i hc
          cases h
          rcases cs with _ | ⟨v, _ | ⟨w, r⟩⟩
          · unfold DataW.trod at hy
            rw [ht] at hy
            simp at hy
          · cases v <;> first | (unfold DataW.trod at hy; rw [ht] at hy; simp at hy; done) | skip
            rename_i a len cap
            cases a with
            | none =>
              unfold DataW.trod at hy
              rw [ht] at hy
              cases len with
              | zero => cases cap with
                | zero =>
                  simp at hy
                  subst hy
                  refine ⟨⟨[.slc true []], ⟨⟨(true, []), rfl, by simp [Lf.wf]⟩, trivial⟩, AllPV.one ?_⟩, fun sp _ => ?_⟩
                  · exact .slc true [] none 0 0 [] (fun _ => rfl) (Nat.le_refl _) (fun e he => by simp at he) (fun h => absurd rfl h) rfl (fun k c v h => by simp at h)
                  · unfold DataW.trod
                    rw [ht]
                    rfl
                | succ n => simp at hy
              | succ n => simp at hy
            | some a => exact slice_in hk ht hc.1 hc.2.1 hc.2.2 (fun cs y h => trod_in hk d e l' hl' fuel cs y h) hy
          · unfold DataW.trod at hy
            rw [ht] at hy
            simp at hy
        · cases h
      · cases h
    · rename_i fs ht
      unfold DataW.trod at hy
      simp only [ht] at hy
      split at hy
      · rename_i hlen
        cases hx : (fs.toList.mapM fun f => DataW.trod enc P W 0 (fun _ => true) true fuel f.type ((cs.drop f.offset).take (P.cellsOf f.type))) with
        | none => simp [hx] at hy
        | some xs =>
          simp [hx] at hy
          subst hy
          obtain ⟨⟨as, g1, g2⟩, g3⟩ := fields_in (fun t l hl cs y h => trod_in hk d t l hl fuel cs y h) hlen h (Nat.zero_le _) hx
          refine ⟨⟨as, g1, by simpa using g2⟩, fun sp hsp => ?_⟩
          unfold DataW.trod
          simp only [ht, hlen, if_true]
          rw [g3 sp (fun x hx p hp => hsp p (List.mem_flatMap.2 ⟨x, hx, hp⟩))]
          rfl
      · cases hy
    · rename_i n e ht
      split at h
      · rename_i l' hl'
        split at h
        · rename_i hc
          cases h
          unfold DataW.trod at hy
          simp only [ht] at hy
          split at hy
          · rename_i hlen
            rw [List.range_eq_range'] at hy
            cases hx : ((List.range' 0 n).mapM fun i => DataW.trod enc P W 0 (fun _ => true) true fuel e ((cs.drop (i * P.cellsOf e)).take (P.cellsOf e))) with
            | none => simp [hx] at hy
            | some xs =>
              simp [hx] at hy
              subst hy
              obtain ⟨⟨as, g1, g2⟩, g3⟩ := array_in (fun cs y h => trod_in hk d e l' hl' fuel cs y h) hc.1 (n := n) (k := 0) (by rw [hlen, ← hc.2]; simp) hx
              refine ⟨⟨as, g1, by simpa using g2⟩, fun sp hsp => ?_⟩
              unfold DataW.trod
              simp only [ht, hlen, if_true]
              rw [List.range_eq_range', g3 sp (fun x hx p hp => hsp p (List.mem_flatMap.2 ⟨x, hx, hp⟩))]
              rfl
          · cases hy
        · cases h
      · cases h
    · cases h
end
end Go.Ab
