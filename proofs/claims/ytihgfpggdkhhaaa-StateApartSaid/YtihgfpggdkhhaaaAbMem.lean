/- What is built, and what changes memory. -/
import Derived.Test.YtihgfpggdkhhaaaAbOps2
import Derived.Laws.Tables
import Derived.Laws.CopyRow
set_option linter.unusedVariables false
set_option linter.unusedSimpArgs false
namespace Go.Ab
open Go

section
variable {P : Program} {w0 : World} {G X Lo : Nat → Prop} {c : Cx}

/-- Values, one for each. -/
def VL (c : Cx) (as : List AV) (vs : List Value) : Prop := as.length = vs.length ∧ ∀ (i : Nat) a v, as[i]? = some a → vs[i]? = some v → V c a v

theorem VL.nil : VL c [] [] := ⟨rfl, fun _ _ _ h => by simp at h⟩
theorem VL.cons {a : AV} {v : Value} {as : List AV} {vs : List Value} (h : V c a v) (hs : VL c as vs) : VL c (a :: as) (v :: vs) :=
  ⟨by simp [hs.1], fun i x u h1 h2 => by
    cases i with
    | zero => simp at h1 h2; subst h1; subst h2; exact h
    | succ i => exact hs.2 i x u (by simpa using h1) (by simpa using h2)⟩
theorem VL.of_cons {a : AV} {as : List AV} {vs : List Value} (h : VL c (a :: as) vs) : ∃ v r, vs = v :: r ∧ V c a v ∧ VL c as r := by
  cases vs with
  | nil => have := h.1; simp at this
  | cons v r => exact ⟨v, r, rfl, h.2 0 _ _ rfl rfl, by have := h.1; simpa using this, fun i x u h1 h2 => h.2 (i + 1) x u (by simpa using h1) (by simpa using h2)⟩
theorem VL.append {as bs : List AV} {us vs : List Value} (h : VL c as us) (h' : VL c bs vs) : VL c (as ++ bs) (us ++ vs) := by
  refine ⟨by simp [h.1, h'.1], fun i a v h1 h2 => ?_⟩
  by_cases hi : i < as.length
  · rw [List.getElem?_append_left hi] at h1
    rw [List.getElem?_append_left (by have := h.1; omega)] at h2
    exact h.2 i a v h1 h2
  · rw [List.getElem?_append_right (by omega)] at h1
    rw [List.getElem?_append_right (by have := h.1; omega), ← h.1] at h2
    exact h'.2 _ a v h1 h2
theorem VL.take {as : List AV} {us : List Value} (h : VL c as us) (n : Nat) : VL c (as.take n) (us.take n) := by
  refine ⟨by simp [h.1], fun i a v h1 h2 => ?_⟩
  rw [List.getElem?_take] at h1 h2
  split at h1
  · rename_i hi; rw [if_pos hi] at h2; exact h.2 i a v h1 h2
  · cases h1
theorem VL.drop {as : List AV} {us : List Value} (h : VL c as us) (n : Nat) : VL c (as.drop n) (us.drop n) := by
  refine ⟨by simp [h.1], fun i a v h1 h2 => ?_⟩
  rw [List.getElem?_drop] at h1 h2
  exact h.2 _ a v h1 h2
theorem VL.mono {c' : Cx} (L : Le c c') {as : List AV} {us : List Value} (h : VL c as us) : VL c' as us := ⟨h.1, fun i a v h1 h2 => (h.2 i a v h1 h2).mono L⟩

theorem set_run (off : Nat) : ∀ (vs cs : List Value) (k : Nat), off + k + vs.length ≤ cs.length →
    (vs.zipIdx k).foldl (fun (cs : Array Value) (x : Value × Nat) => cs.setIfInBounds (off + x.2) x.1) cs.toArray = (cs.take (off + k) ++ vs ++ cs.drop (off + k + vs.length)).toArray
  | [], cs, k, _ => by simp
  | v :: vs, cs, k, h => by
    have hlen : off + k < cs.length := by simp at h; omega
    simp only [List.zipIdx_cons, List.foldl_cons]
    have : cs.toArray.setIfInBounds (off + k) v = (cs.set (off + k) v).toArray := by simp
    rw [this, set_run off vs (cs.set (off + k) v) (k + 1) (by simp at h ⊢; omega)]
    congr 1
    have e := list_seg_step cs (off + k) v vs (by simp at h ⊢; omega)
    simpa [Nat.add_assoc] using e

theorem splice_eq {as : List AV} {off : Nat} {xs r : List AV} (h : splice as off xs = some r) : off + xs.length ≤ as.length ∧ r = as.take off ++ (xs ++ as.drop (off + xs.length)) := by
  unfold splice at h
  split at h
  · rename_i hle; cases h; exact ⟨hle, rfl⟩
  · cases h

theorem fill_ok {place : Nat → Option (Nat × Nat)} : ∀ {parts : List (Nat × AV)} {vparts : List (Nat × Value)} {as r : List AV} {vs : List Value},
    fillC place as parts = some r → VL c as vs → (∀ a ∈ as, a.okC = true) → parts.map (·.1) = vparts.map (·.1) → VL c (parts.map (·.2)) (vparts.map (·.2)) →
    ∃ us : List Value, Instr.fill place vs.toArray vparts = some us.toArray ∧ VL c r us ∧ ∀ a ∈ r, a.okC = true
  | [], [], as, r, vs, h, hv, ho, _, _ => by simp [fillC] at h; subst h; exact ⟨vs, by simp [Instr.fill], hv, ho⟩
  | (i, a) :: parts, (j, v) :: vparts, as, r, vs, h, hv, ho, hi, hp => by
    simp at hi
    obtain ⟨rfl, hi⟩ := hi
    obtain ⟨v', r', he, hav, hp'⟩ := VL.of_cons hp
    simp at he
    obtain ⟨rfl, rfl⟩ := he
    simp only [fillC] at h
    split at h
    · cases h
    · rename_i off size hpl
      split at h
      · rename_i hc
        split at h
        · rename_i as' hs
          obtain ⟨hle, rfl⟩ := splice_eq hs
          obtain ⟨cs, e1, e2, e3, e4⟩ := hav.cells hc.2
          have hlen : off + cs.length ≤ vs.length := by rw [← e2, ← hv.1]; exact hle
          have hcell : VL c a.cells cs := ⟨e2, e4⟩
          have hnew : VL c (as.take off ++ (a.cells ++ as.drop (off + a.cells.length))) (vs.take off ++ (cs ++ vs.drop (off + cs.length))) := by
            rw [e2]
            exact (hv.take off).append (hcell.append (hv.drop _))
          obtain ⟨us, g1, g2, g3⟩ := fill_ok (parts := parts) (vparts := vparts) h hnew (fun b hb => by
            rcases List.mem_append.1 hb with hb | hb
            · exact ho b (List.mem_of_mem_take hb)
            · rcases List.mem_append.1 hb with hb | hb
              · exact List.all_eq_true.1 hc.2 b hb
              · exact ho b (List.mem_of_mem_drop hb)) hi hp'
          refine ⟨us, ?_, g2, g3⟩
          have hset := set_run off cs vs 0 (by omega)
          simp only [Nat.add_zero] at hset
          have hsz : v.cells.size = size := by rw [e1]; simp [← e2, hc.1]
          have hb : ¬ (v.cells.size ≠ size ∨ off + v.cells.size > vs.toArray.size) := by
            simp only [hsz, ne_eq, not_true, false_or, List.size_toArray]
            rw [e1] at hsz
            simp at hsz
            omega
          simp only [Instr.fill, hpl]
          rw [if_neg (by simpa using hb)]
          have hz : (v.cells.zipIdx.foldl (fun (cs : Array Value) (x : Value × Nat) => cs.setIfInBounds (off + x.2) x.1) vs.toArray) = (vs.take off ++ (cs ++ vs.drop (off + cs.length))).toArray := by
            rw [e1, ← Array.foldl_toList, Array.toList_zipIdx]
            rw [hset, List.append_assoc]
          rw [← g1]
          congr 1
        · cases h
      · cases h
  | [], _ :: _, _, _, _, _, _, _, hi, _ => by simp at hi
  | _ :: _, [], _, _, _, _, _, _, hi, _ => by simp at hi


theorem parts_rel {ps : Array (Nat × Operand)} {ev : Operand → AV} {rv : Operand → Value} (hrel : ∀ x, V c (ev x) (rv x)) :
    (ps.toList.map fun x => (x.1, ev x.2)).map (·.1) = (ps.map fun (i, x) => (i, rv x)).toList.map (·.1) ∧
    VL c ((ps.toList.map fun x => (x.1, ev x.2)).map (·.2)) ((ps.map fun (i, x) => (i, rv x)).toList.map (·.2)) := by
  rw [Array.toList_map]
  induction ps.toList with
  | nil => exact ⟨rfl, VL.nil⟩
  | cons p r ih =>
    refine ⟨by simp [ih.1], ?_⟩
    simp only [List.map_cons]
    exact VL.cons (hrel p.2) ih.2

theorem build_ok (w : World) {t : TypeId} {ps : Array (Nat × Operand)} {ev : Operand → AV} {rv : Operand → Value} (hrel : ∀ x, V c (ev x) (rv x)) {v : AV} {ds : List (Nat × Blk)}
    (h : aBuild P t (ps.toList.map fun x => (x.1, ev x.2)) = some (.val v ds)) : ds = [] ∧ ∃ u, (Instr.build t (ps.map fun (i, x) => (i, rv x))).run P w = .ok u w ∧ V c v u := by
  obtain ⟨hp1, hp2⟩ := parts_rel (c := c) (ps := ps) hrel
  unfold aBuild at h
  split at h
  · rename_i z hz
    have hz0 := hz
    unfold zeroOf at hz0
    split at hz0
    · rename_i it hit
      split at hz0
      · rename_i zv hzv
        split at hz0
        · rename_i hok0
          have hok := hok0.1
          cases hz0
          have hzV : V c (ofVal zv) zv := .pure (ofVal_V zv hok)
          obtain ⟨cs, e1, e2, e3, e4⟩ := hzV.cells hok
          have hokm : ∀ a ∈ (ofVal zv).cells, a.okC = true := fun a ha => List.all_eq_true.1 hok a ha
          split at h
          · rename_i fs hu
            split at h
            · rename_i places hpl
              split at h
              · rename_i r hr
                cases h
                obtain ⟨us, g1, g2, g3⟩ := fill_ok hr ⟨e2, e4⟩ hokm hp1 hp2
                refine ⟨rfl, .agg us.toArray, run_build w t _ us.toArray ?_, .agg _ _ g2.1 g3 g2.2⟩
                unfold Program.built
                unfold placesOf at hpl
                simp only [hit, hu, hzv, hpl]
                rw [e1]
                exact g1
              · cases h
            · cases h
          · rename_i n e hu
            split at h
            · cases h
            · rename_i hne
              split at h
              · rename_i r hr
                cases h
                obtain ⟨ti, hti⟩ := info_of_cells hne
                have hsz : P.cellsOf e = ti.size := by simp [Program.cellsOf, hti]
                obtain ⟨us, g1, g2, g3⟩ := fill_ok hr ⟨e2, e4⟩ hokm hp1 hp2
                refine ⟨rfl, .agg us.toArray, run_build w t _ us.toArray ?_, .agg _ _ g2.1 g3 g2.2⟩
                unfold Program.built
                simp only [hit, hu, hzv, hti]
                rw [e1, ← hsz]
                exact g1
              · cases h
          · cases h
        · cases hz0
      · cases hz0
    · cases hz0
  · cases h

end
end Go.Ab
