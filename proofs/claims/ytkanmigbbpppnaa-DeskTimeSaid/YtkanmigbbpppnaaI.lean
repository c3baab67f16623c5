/- A part of the proof: contracts of functions. -/
import Derived.Test.YtkanmigbbpppnaaH
import Derived.Test.YtkanmigbbpppnaaAbAny

set_option linter.unusedVariables false
set_option linter.unusedSimpArgs false
set_option maxRecDepth 100000
namespace Go.Proofs.Ytkanmigbbpppnaa
open Go Go.Ab
open Go.RowKit Go.Lib
section
variable {P : Program} {w0 : World} {G X Lo : Nat → Prop} {c : Cx}
theorem congrS (h : WR w0 G X Lo c) (S' : List (Nat × Blk)) (hS : ∀ b, Ab.look S' b = Ab.look c.S b ∨ ∃ x x', Ab.look c.S b = some x ∧ Ab.look S' b = some x' ∧ x.k = .dead ∧ x'.k = .dead ∧ x'.v = x.v) : WR w0 G X Lo { c with S := S' } ∧ Le c { c with S := S' } := by
 have L : Le c { c with S := S' } := by
  refine ⟨Nat.le_refl _, fun _ _ hf => hf, fun _ _ _ => rfl, fun b x hx => ?_⟩
  rcases hS b with e | ⟨y, y', e1, e2, e3, e4, e5⟩
  ·exact ⟨x, by show Ab.look S' b = some x; rw [e]; exact hx, Nat.le_refl _, fun _ _ => ⟨rfl, rfl, rfl, fun _ => rfl, id, fun cl t fr hc => ⟨cl, t, fr, hc, rfl⟩⟩⟩
  ·cases Option.some.inj (e1.symm.trans hx)
   exact ⟨y', e2, by omega, fun _ hd => absurd e4 hd⟩
 have hl : ∀ b x, Ab.look S' b = some x → x.k ≠ .dead → Ab.look c.S b = some x := fun b x hx hd => by
  rcases hS b with e | ⟨y, y', e1, e2, e3, e4, e5⟩
  ·rw [← e]; exact hx
  ·cases Option.some.inj (e2.symm.trans hx)
   exact absurd e4 hd
 have hl' : ∀ b x, Ab.look c.S b = some x → x.k ≠ .dead → Ab.look S' b = some x := fun b x hx hd => by
  rcases hS b with e | ⟨y, y', e1, e2, e3, e4, e5⟩
  ·rw [e]; exact hx
  ·cases Option.some.inj (e1.symm.trans hx)
   exact absurd e3 hd
 refine ⟨⟨h.size, h.kept, h.os, h.out, h.xs, fun b x hx hd => h.own b x (hl b x hx hd) hd, fun b x hx hd => h.low b x (hl b x hx hd) hd, fun b b' x x' hx hk hx' hk' => h.inj b b' x x' (hl b x hx hk) hk (hl b' x' hx' hk') hk', fun b x hx hk => ?_, fun i => ?_⟩, L⟩
 ·obtain ⟨cells, t, lo, hi, g1, g2, g3, g4⟩ := (h.blk b x (hl b x hx hk) hk).here
  exact ⟨cells, t, lo, hi, g1, g2, fun k => (g3 k).mono L, fun k => ⟨(g4 k).1, (g4 k).2.mono L⟩⟩
 ·rw [h.hF i]
  constructor
  ·rintro (hx | ⟨b, x, h1, h2, h3⟩)
   ·exact .inl hx
   ·exact .inr ⟨b, x, hl' b x h1 h2, h2, h3⟩
  ·rintro (hx | ⟨b, x, h1, h2, h3⟩)
   ·exact .inl hx
   ·exact .inr ⟨b, x, hl b x h1 h2, h2, h3⟩
theorem setCells_row (w : World) (b o : Nat) (t : TypeId) (k : Nat) (vs : List Value) (cells : Array Value) (hw : w.heap[b]? = some (.cells cells t (k, k))) (ho : o + vs.length ≤ cells.size) (h1 : ∀ v ∈ vs, v.oneCell' = true) :
  ∃ cells' : Array Value, w.setCells b o vs = w.setRow b cells' ∧ cells'.size = cells.size := by
 have ha := run_storeCells (P := Try.prog) b o t k k vs 0 cells w hw (by omega) (by omega) h1
 have hb := run_storeCells_cells (P := Try.prog) b o vs 0 w (fun j hj => by
  have : cells[o + 0 + j]? = some cells[o + j] := Array.getElem?_eq_getElem (by omega)
  simp only [World.cell?, hw]
  rw [this]
  rfl) (fun j hj => by
  simp only [World.frozen?, hw, Bool.and_eq_false_iff, decide_eq_false_iff_not]
  omega) h1
 rw [ha] at hb
 simp only [Nat.add_zero] at hb
 injection hb with _ hb
 refine ⟨_, hb.symm, arr_splice_size ho⟩
def insB (es : List AV) : Blk := { v := 0, k := .row, fz := false, sz := 4, es := es }
theorem ins_flat {es xs : List AV} (i : Nat) (he : ∀ e ∈ es, e.cells.length = 4) : (es.take i ++ (xs ++ es.drop i)).flatMap AV.cells = (es.flatMap AV.cells).take (i * 4) ++ (xs.flatMap AV.cells ++ (es.flatMap AV.cells).drop (i * 4)) := by
 rw [List.flatMap_append, List.flatMap_append, flat_take he, flat_drop he]
theorem insPLdrop {es : List AV} {us : List Value} (h : PL c es us) (n : Nat) : PL c (es.drop n) (us.drop n) := by
 refine ⟨by simp [h.1], fun i a v h1 h2 => ?_⟩
 rw [List.getElem?_drop] at h1 h2
 exact h.2 _ a v h1 h2
end
theorem insO (es xs : List AV) (i : Nat) (hx : xs.length = 1) (hi : i < es.length) (hn : es.length ≤ 1000000) :
  CallOk Try.prog 61 [.sref outBase 0 0 es.length, .int .i64 i, .sref (outBase + 1) 0 0 1] [insB es, insB xs] { pan := false, res := .sref newBase 0 0 (es.length + 1), out := [{ insB [] with k := .dead }, insB xs], new := [insB (es.take i ++ (xs ++ es.drop i))] } := by
 refine ⟨⟨Try.f61, _, Try.func61, rfl, by kernel_rfl⟩, ?_⟩
 intro c w0 G X Lo vals hS hout hW hV
 obtain ⟨v0, r0, rfl, hv0, hV⟩ := hV.of_cons
 obtain ⟨v1, r1, rfl, hv1, hV⟩ := hV.of_cons
 obtain ⟨v2, r2, rfl, hv2, hV⟩ := hV.of_cons
 have hr2 : r2 = [] := List.eq_nil_of_length_eq_zero hV.1.symm
 subst hr2
 have e1 := hv1.int_inv
 subst e1
 have hl0 : Ab.look c.S outBase = some (insB es) := by rw [hS]; rfl
 have hl1 : Ab.look c.S (outBase + 1) = some (insB xs) := by rw [hS]; rfl
 obtain ⟨x0, a1, a2, a3⟩ := hv0.sref_inv
 cases Option.some.inj (hl0.symm.trans a1)
 obtain ⟨cap, cells, t, fr, rfl, b2, b3, b4, b5⟩ := a3 rfl rfl
 obtain ⟨x1, a1', a2', a3'⟩ := hv2.sref_inv
 cases Option.some.inj (hl1.symm.trans a1')
 obtain ⟨cap', cells', t', fr', rfl, b2', b3', b4', b5'⟩ := a3' rfl rfl
 simp only [Nat.zero_mul, Nat.zero_add] at b2 b5 b2' b5'
 have b5 : cap * 4 ≤ cells.size := b5
 have b5' : cap' * 4 ≤ cells'.size := b5'
 have hel := row_elems hW hl0 rfl
 have hel' := row_elems hW hl1 rfl
 have he4 : ∀ e ∈ es, e.cells.length = 4 := fun e he => (hel e he).1
 have hx4 : ∀ e ∈ xs, e.cells.length = 4 := fun e he => (hel' e he).1
 obtain ⟨cl, tt, lo, hi', g1, g2, _, g4⟩ := (hW.blk outBase _ hl0 (by simp [insB])).here
 rw [b4] at g1
 cases g1
 obtain ⟨cl', tt', lo', hi'', g1', g2', _, g4'⟩ := (hW.blk (outBase + 1) _ hl1 (by simp [insB])).here
 rw [b4'] at g1'
 cases g1'
 have hlo : lo = hi' := by
  rcases g2 with h | h
  ·exact h
  ·exact absurd h.2 (show ¬ ((4 : Nat) = 1) by decide)
 have hlo' : lo' = hi'' := by
  rcases g2' with h | h
  ·exact h
  ·exact absurd h.2 (show ¬ ((4 : Nat) = 1) by decide)
 subst hlo
 subst hlo'
 have hP := (g4 rfl).2
 have hP' := (g4' rfl).2
 have hfl : (es.flatMap AV.cells).length = es.length * 4 := flat_len he4
 have hfl' : (xs.flatMap AV.cells).length = 4 := by rw [flat_len hx4, hx]
 have hpl : PL c (es.flatMap AV.cells) (cells.toList.take (es.length * 4)) := by
  have := hP.pl (o := es.length * 4) (by rw [show (insB es).es = es from rfl, hfl]; exact Nat.le_refl _)
  rw [show (insB es).es = es from rfl, List.take_of_length_le (by rw [hfl]; exact Nat.le_refl _)] at this
  exact this
 have hpl' : PL c (xs.flatMap AV.cells) (cells'.toList.take 4) := by
  have := hP'.pl (o := 4) (by rw [show (insB xs).es = xs from rfl, hfl']; exact Nat.le_refl _)
  rw [show (insB xs).es = xs from rfl, List.take_of_length_le (by rw [hfl']; exact Nat.le_refl _)] at this
  exact this
 have hone := hpl.one (fun a ha => by
  obtain ⟨y, hy, hy2⟩ := List.mem_flatMap.1 ha
  exact (hel y hy).2 a hy2)
 have hone' := hpl'.one (fun a ha => by
  obtain ⟨y, hy, hy2⟩ := List.mem_flatMap.1 ha
  exact (hel' y hy).2 a hy2)
 have hcl : (cells.toList.take (es.length * 4)).length = es.length * 4 := by rw [← hpl.1]; exact hfl
 have hcl' : (cells'.toList.take 4).length = 4 := by rw [← hpl'.1]; exact hfl'
 have hne : c.R (outBase + 1) ≠ c.R outBase := fun e => absurd (hW.inj _ _ _ _ hl1 (by simp [insB]) hl0 (by simp [insB]) e) (by decide)
 have hcs : ∀ j v, (cells.toList.take (es.length * 4))[j]? = some v → c.w.cell? ⟨c.R outBase, j, none⟩ = some v := fun j v hj => by
  rw [List.getElem?_take] at hj
  split at hj
  ·rw [Array.getElem?_toList] at hj
   simp [World.cell?, b4, hj]
  ·cases hj
 have hvs : ∀ j v, (cells'.toList.take 4)[j]? = some v → c.w.cell? ⟨c.R (outBase + 1), j, none⟩ = some v := fun j v hj => by
  rw [List.getElem?_take] at hj
  split at hj
  ·rw [Array.getElem?_toList] at hj
   simp [World.cell?, b4', hj]
  ·cases hj
 have hnewel : ∀ e ∈ es.take i ++ (xs ++ es.drop i), e.cells.length = 4 ∧ ∀ a ∈ e.cells, a.okC = true := fun e he => by
  rcases List.mem_append.1 he with he | he
  ·exact hel e (List.mem_of_mem_take he)
  ·rcases List.mem_append.1 he with he | he
   ·exact hel' e he
   ·exact hel e (List.mem_of_mem_drop he)
 have hPLn : PL c ((es.take i ++ (xs ++ es.drop i)).flatMap AV.cells) ((cells.toList.take (es.length * 4)).take (i * 4) ++ (cells'.toList.take 4 ++ (cells.toList.take (es.length * 4)).drop (i * 4))) := by
  rw [ins_flat i he4]
  exact (hpl.take _).append (hpl'.append (insPLdrop hpl _))
 have hnl : (es.take i ++ (xs ++ es.drop i)).length = es.length + 1 := by
  simp only [List.length_append, List.length_take, List.length_drop, hx]; omega
 generalize hcsd : cells.toList.take (es.length * 4) = cs at hpl hone hcl hcs hPLn
 generalize hvsd : cells'.toList.take 4 = vs at hpl' hone' hcl' hvs hPLn
 have hcdl : (cs.drop (i * 4)).length = (es.length - i) * 4 := by rw [List.length_drop, hcl]; omega
 have hcontent : ∀ (R : Array Value), (∀ j, j < (es.length + 1) * 4 → R[j]? = (cs.take (i * 4) ++ (vs ++ cs.drop (i * 4)))[j]?) → PContent c ((es.take i ++ (xs ++ es.drop i)).flatMap AV.cells) R := fun R hR k a hk => by
  have hlt := (List.getElem?_eq_some_iff.1 hk).1
  have hlt2 : k < (es.length + 1) * 4 := by rw [flat_len (fun e he => (hnewel e he).1), hnl] at hlt; exact hlt
  have hku : k < (cs.take (i * 4) ++ (vs ++ cs.drop (i * 4))).length := by rw [← hPLn.1]; exact hlt
  have hu := List.getElem?_eq_getElem hku
  exact ⟨_, (hR k hlt2).trans hu, hPLn.2 k a _ hk hu⟩
 have hread : ∀ (j : Nat), j < (es.length + 1) * 4 → (cs.take (i * 4) ++ (vs ++ cs.drop (i * 4)))[j]? = if j < i * 4 then cs[j]? else if j < (i + 1) * 4 then vs[j - i * 4]? else (cs.drop (i * 4))[j - (i + 1) * 4]? := fun j hj => by
  have hti : (cs.take (i * 4)).length = i * 4 := by rw [List.length_take, hcl]; omega
  by_cases h1 : j < i * 4
  ·rw [if_pos h1, List.getElem?_append_left (by omega), List.getElem?_take, if_pos h1]
  ·rw [if_neg h1, List.getElem?_append_right (by omega), hti]
   by_cases h2 : j < (i + 1) * 4
   ·rw [if_pos h2, List.getElem?_append_left (by omega)]
   ·rw [if_neg h2, List.getElem?_append_right (by omega), hcl']
    congr 1
    omega
 have hlookS : ∀ (D D' N : Blk), D.k = .dead → D'.k = .dead → D.v = D'.v → ∀ (b : Nat), Ab.look (outerSt [D, insB xs] ++ withKeys newBase 0 [N]) b = Ab.look ((newBase, N) :: (outBase, D') :: c.S) b ∨ ∃ x x', Ab.look ((newBase, N) :: (outBase, D') :: c.S) b = some x ∧ Ab.look (outerSt [D, insB xs] ++ withKeys newBase 0 [N]) b = some x' ∧ x.k = .dead ∧ x'.k = .dead ∧ x'.v = x.v := fun D D' N d1 d2 d3 b => by
  by_cases hb : b = outBase
  ·subst hb
   exact .inr ⟨D', D, rfl, rfl, d2, d1, d3⟩
  ·left
   rw [hS]
   simp only [outerSt, withKeys, List.cons_append, List.nil_append, Ab.look_cons, Ab.look, newBase, outBase, Nat.add_zero, Nat.zero_add] at hb ⊢
   repeat' split
   all_goals first | rfl | omega | (exfalso; omega)
 by_cases hroom : es.length + 1 ≤ cap
 ·have hcall := ins_room (c.R outBase) es.length cap i (c.R (outBase + 1)) cap' cs vs c.w hi hn hroom hne hcl hcl' hcs
   (fun j hj => by
    have : cells[j]? = some cells[j] := Array.getElem?_eq_getElem (by omega)
    simp [World.cell?, b4, this])
   (fun j hj => by
    simp only [World.frozen?, b4, Bool.and_eq_false_iff, decide_eq_false_iff_not]; omega)
   hvs hone hone' t' t cells'.size cells.size (by simp [World.shape?, b4']) (by simp [World.shape?, b4]) (by omega)
   (by simp only [World.frozen?, b4', Bool.and_eq_false_iff, decide_eq_false_iff_not]; omega)
   (by simp only [World.frozen?, b4', Bool.and_eq_false_iff, decide_eq_false_iff_not]; omega)
  refine hcall.mono ?_
  rintro e w' ⟨rfl, rfl⟩
  have hd : c.w.drew.heap[c.R outBase]? = some (.cells cells t (lo, lo)) := b4
  obtain ⟨r1, q1, q2⟩ := setCells_row c.w.drew (c.R outBase) ((i + 1) * 4) t lo (cs.drop (i * 4)) cells hd (by omega) (fun v hv => hone v (List.mem_of_mem_drop hv))
  have hd1 : (c.w.drew.setCells (c.R outBase) ((i + 1) * 4) (cs.drop (i * 4))).heap[c.R outBase]? = some (.cells r1 t (lo, lo)) := by rw [q1]; exact setRow_heap _ _ _ _ _ _ hd
  obtain ⟨r2, q3, q4⟩ := setCells_row (c.w.drew.setCells (c.R outBase) ((i + 1) * 4) (cs.drop (i * 4))) (c.R outBase) (i * 4) t lo vs r1 hd1 (by omega) hone'
  have hheap : ((c.w.drew.setCells (c.R outBase) ((i + 1) * 4) (cs.drop (i * 4))).setCells (c.R outBase) (i * 4) vs).heap = c.w.heap.setIfInBounds (c.R outBase) (.cells r2 t (lo, lo)) := by
   rw [q3, setRow_heap_eq _ _ r1 _ t (lo, lo) hd1, q1, setRow_heap_eq _ _ cells _ t (lo, lo) hd]
   show ((c.w.heap.setIfInBounds (c.R outBase) (.cells r1 t (lo, lo))).setIfInBounds (c.R outBase) (.cells r2 t (lo, lo))) = _
   apply Array.ext_getElem?
   intro k
   simp only [Array.getElem?_setIfInBounds, Array.size_setIfInBounds]
   repeat' split
   all_goals first | rfl | omega
  have hsome : ∀ j, j < cells.size → (c.w.drew.cell? ⟨c.R outBase, j, none⟩).isSome = true := fun j hj => by
   have : cells[j]? = some cells[j] := Array.getElem?_eq_getElem hj
   simp [World.cell?, hd, this]
  have hcellr : ∀ j, r2[j]? = ((c.w.drew.setCells (c.R outBase) ((i + 1) * 4) (cs.drop (i * 4))).setCells (c.R outBase) (i * 4) vs).cell? ⟨c.R outBase, j, none⟩ := fun j => by
   have : ((c.w.drew.setCells (c.R outBase) ((i + 1) * 4) (cs.drop (i * 4))).setCells (c.R outBase) (i * 4) vs).heap[c.R outBase]? = some (.cells r2 t (lo, lo)) := by
    rw [q3]; exact setRow_heap _ _ _ _ _ _ hd1
   simp [World.cell?, this]
  have hR : ∀ j, j < (es.length + 1) * 4 → r2[j]? = (cs.take (i * 4) ++ (vs ++ cs.drop (i * 4)))[j]? := fun j hj => by
   rw [hread j hj, hcellr]
   by_cases h1 : j < i * 4
   ·rw [if_pos h1, World.cell?_setCells_out _ _ _ _ _ (fun _ _ => .inl h1), World.cell?_setCells_out _ _ _ _ _ (fun _ _ => .inl (by show j < _; omega))]
    have hjc : j < cs.length := by omega
    rw [List.getElem?_eq_getElem hjc]
    exact hcs j _ (List.getElem?_eq_getElem hjc)
   ·rw [if_neg h1]
    by_cases h2 : j < (i + 1) * 4
    ·rw [if_pos h2]
     have hlt : j - i * 4 < vs.length := by omega
     have := World.cell?_setCells_in (c.R outBase) vs (i * 4) (c.w.drew.setCells (c.R outBase) ((i + 1) * 4) (cs.drop (i * 4))) (fun k hk => by
      have : r1[i * 4 + k]? = some r1[i * 4 + k] := Array.getElem?_eq_getElem (by omega)
      simp only [World.cell?, hd1]
      rw [this]; rfl) (j - i * 4) hlt
     rw [show i * 4 + (j - i * 4) = j by omega] at this
     rw [this, List.getElem?_eq_getElem hlt]
    ·rw [if_neg h2, World.cell?_setCells_out _ _ _ _ _ (fun _ _ => .inr (by show i * 4 + vs.length ≤ j; omega))]
     have hlt : j - (i + 1) * 4 < (cs.drop (i * 4)).length := by omega
     have := World.cell?_setCells_in (c.R outBase) (cs.drop (i * 4)) ((i + 1) * 4) c.w.drew (fun k hk => hsome _ (by omega)) (j - (i + 1) * 4) hlt
     rw [show (i + 1) * 4 + (j - (i + 1) * 4) = j by omega] at this
     rw [this, List.getElem?_eq_getElem hlt]
  obtain ⟨k1, k2⟩ := hW.regrow outBase (insB es) (insB (es.take i ++ (xs ++ es.drop i))) hl0 (by simp [insB]) rfl newBase (by rw [hS]; rfl) rfl rfl
   cells r2 t t (lo, lo) lo lo b4 (.inl rfl) _ hheap (by rw [q3, q1]; rfl) (by rw [q3, q1]; rfl) ⟨hnewel, hcontent r2 hR⟩
  obtain ⟨k3, k4⟩ := congrS k1 (outerSt [{ insB [] with k := .dead }, insB xs] ++ withKeys newBase 0 [insB (es.take i ++ (xs ++ es.drop i))]) (hlookS { insB [] with k := .dead } { insB es with k := .dead } _ rfl rfl rfl)
  refine ⟨_, .slice (some ⟨c.R outBase, 0, none⟩) (es.length + 1) cap, ?_, rfl, k3, k2.trans k4, ?_, ?_⟩
  ·rfl
  ·refine .sref _ _ _ _ _ rfl (insB (es.take i ++ (xs ++ es.drop i))) (by rfl) (Nat.le_refl _) (fun _ _ => ⟨cap, r2, t, (lo, lo), ?_, ?_, hroom, ?_, ?_⟩)
   ·show Value.slice (some ⟨c.R outBase, _, none⟩) _ _ = Value.slice (some ⟨updR c.R newBase (c.R outBase) newBase, _, none⟩) _ _
    simp [updR]
   ·show (es.take i ++ (xs ++ es.drop i)).length ≤ 0 + cap
    rw [hnl]; omega
   ·show (World.heap _)[updR c.R newBase (c.R outBase) newBase]? = _
    simp only [updR, if_true]
    rw [q3]; exact setRow_heap _ _ _ _ _ _ hd1
   ·show (0 + cap) * 4 ≤ r2.size
    rw [q4, q2]; omega
  ·simp
 ·have hcall := ins_grow (c.R outBase) es.length cap i (c.R (outBase + 1)) cap' cs vs c.w hi hn b3 (by omega) hcl hcl' hcs hvs hone hone'
  refine hcall.mono ?_
  rintro e w' ⟨rfl, rfl⟩
  have hgl : es.length + 1 ≤ grownCap c.w (es.length + 1) cap 57 := grown_le c.w _ _ _
  generalize grownCap c.w (es.length + 1) cap 57 = Gc at hgl ⊢
  have hti : (cs.take (i * 4)).length = i * 4 := by rw [List.length_take, hcl]; omega
  obtain ⟨ROW, hROW⟩ : ∃ ROW : Array Value, ROW = (cs.take (i * 4)).toArray ++ Builtin.zeroCells zL4.cells (es.length + 1 - i) ++ Builtin.zeroCells zL4.cells (Gc - (es.length + 1)) := ⟨_, rfl⟩
  rw [← hROW]
  have hRs : ROW.size = Gc * 4 := by
   rw [hROW]
   simp only [Array.size_append, List.size_toArray, hti, zc4]
   omega
  have hRc : ∀ j, j < i * 4 → ROW[j]? = cs[j]? := fun j hj => by
   rw [hROW, Array.append_assoc, Array.getElem?_append_left (by simp only [List.size_toArray, hti]; omega)]
   rw [List.getElem?_toArray, List.getElem?_take, if_pos hj]
  have hd : (c.w.alloc (.cells ROW 57)).drew.heap[c.w.heap.size]? = some (.cells ROW 57 (0, 0)) := by
   show (c.w.heap.push _)[c.w.heap.size]? = _
   rw [Array.getElem?_push_size]
  obtain ⟨r1, q1, q2⟩ := setCells_row (c.w.alloc (.cells ROW 57)).drew c.w.heap.size (i * 4) 57 0 vs ROW hd (by omega) hone'
  have hd1 : ((c.w.alloc (.cells ROW 57)).drew.setCells c.w.heap.size (i * 4) vs).drew.heap[c.w.heap.size]? = some (.cells r1 57 (0, 0)) := by
   show ((c.w.alloc (.cells ROW 57)).drew.setCells c.w.heap.size (i * 4) vs).heap[c.w.heap.size]? = _
   rw [q1]; exact setRow_heap _ _ _ _ _ _ hd
  obtain ⟨r2, q3, q4⟩ := setCells_row ((c.w.alloc (.cells ROW 57)).drew.setCells c.w.heap.size (i * 4) vs).drew c.w.heap.size ((i + 1) * 4) 57 0 (cs.drop (i * 4)) r1 hd1 (by omega) (fun v hv => hone v (List.mem_of_mem_drop hv))
  have hos : (((c.w.alloc (.cells ROW 57)).drew.setCells c.w.heap.size (i * 4) vs).drew.setCells c.w.heap.size ((i + 1) * 4) (cs.drop (i * 4))).os = c.w.os ∧ (((c.w.alloc (.cells ROW 57)).drew.setCells c.w.heap.size (i * 4) vs).drew.setCells c.w.heap.size ((i + 1) * 4) (cs.drop (i * 4))).output = c.w.output := by
   rw [q3, q1]; exact ⟨rfl, rfl⟩
  have hheap : (((c.w.alloc (.cells ROW 57)).drew.setCells c.w.heap.size (i * 4) vs).drew.setCells c.w.heap.size ((i + 1) * 4) (cs.drop (i * 4))).heap = c.w.heap.push (.cells r2 57 (0, 0)) := by
   rw [q3, setRow_heap_eq _ _ r1 _ 57 (0, 0) hd1]
   show ((c.w.alloc (.cells ROW 57)).drew.setCells c.w.heap.size (i * 4) vs).heap.setIfInBounds c.w.heap.size _ = _
   rw [q1, setRow_heap_eq _ _ ROW _ 57 (0, 0) hd]
   show ((c.w.heap.push (.cells ROW 57 (0, 0))).setIfInBounds c.w.heap.size (.cells r1 57 (0, 0))).setIfInBounds c.w.heap.size (.cells r2 57 (0, 0)) = _
   apply Array.ext_getElem?
   intro k
   simp only [Array.getElem?_setIfInBounds, Array.size_setIfInBounds, Array.size_push, Array.getElem?_push]
   repeat' split
   all_goals first | rfl | omega
  have hcellr : ∀ j, r2[j]? = (((c.w.alloc (.cells ROW 57)).drew.setCells c.w.heap.size (i * 4) vs).drew.setCells c.w.heap.size ((i + 1) * 4) (cs.drop (i * 4))).cell? ⟨c.w.heap.size, j, none⟩ := fun j => by
   have : (((c.w.alloc (.cells ROW 57)).drew.setCells c.w.heap.size (i * 4) vs).drew.setCells c.w.heap.size ((i + 1) * 4) (cs.drop (i * 4))).heap[c.w.heap.size]? = some (.cells r2 57 (0, 0)) := by
    rw [q3]; exact setRow_heap _ _ _ _ _ _ hd1
   simp [World.cell?, this]
  have hR : ∀ j, j < (es.length + 1) * 4 → r2[j]? = (cs.take (i * 4) ++ (vs ++ cs.drop (i * 4)))[j]? := fun j hj => by
   rw [hread j hj, hcellr]
   by_cases h2 : j < (i + 1) * 4
   ·rw [World.cell?_setCells_out _ _ _ _ _ (fun _ _ => .inl h2)]
    show ((c.w.alloc (.cells ROW 57)).drew.setCells c.w.heap.size (i * 4) vs).cell? ⟨c.w.heap.size, j, none⟩ = _
    by_cases h1 : j < i * 4
    ·rw [if_pos h1, World.cell?_setCells_out _ _ _ _ _ (fun _ _ => .inl h1), ← hRc j h1]
     simp only [World.cell?, hd]
     rfl
    ·rw [if_neg h1, if_pos h2]
     have hlt : j - i * 4 < vs.length := by omega
     have := World.cell?_setCells_in c.w.heap.size vs (i * 4) (c.w.alloc (.cells ROW 57)).drew (fun k hk => by
      have : ROW[i * 4 + k]? = some ROW[i * 4 + k] := Array.getElem?_eq_getElem (by omega)
      simp only [World.cell?, hd]
      rw [this]; rfl) (j - i * 4) hlt
     rw [show i * 4 + (j - i * 4) = j by omega] at this
     rw [this, List.getElem?_eq_getElem hlt]
   ·rw [if_neg (show ¬ j < i * 4 by omega), if_neg h2]
    have hlt : j - (i + 1) * 4 < (cs.drop (i * 4)).length := by omega
    have := World.cell?_setCells_in c.w.heap.size (cs.drop (i * 4)) ((i + 1) * 4) ((c.w.alloc (.cells ROW 57)).drew.setCells c.w.heap.size (i * 4) vs).drew (fun k hk => by
     have : r1[(i + 1) * 4 + k]? = some r1[(i + 1) * 4 + k] := Array.getElem?_eq_getElem (by omega)
     simp only [World.cell?, hd1]
     rw [this]; rfl) (j - (i + 1) * 4) hlt
    rw [show (i + 1) * 4 + (j - (i + 1) * 4) = j by omega] at this
    rw [this, List.getElem?_eq_getElem hlt]
  generalize ((c.w.alloc (.cells ROW 57)).drew.setCells c.w.heap.size (i * 4) vs).drew.setCells c.w.heap.size ((i + 1) * 4) (cs.drop (i * 4)) = w2 at hos hheap
  obtain ⟨p1, p2⟩ := hW.setA outBase (insB es) { insB es with k := .dead } hl0 rfl rfl rfl (.inr rfl) (.inl rfl)
  obtain ⟨k1, k2⟩ := p1.push { w2 with heap := c.w.heap } rfl hos.1 hos.2 newBase (insB (es.take i ++ (xs ++ es.drop i))) (by
    show 0 = nextV ((outBase, _) :: c.S) newBase
    rw [hS]; rfl) (by simp [insB]) rfl r2 57 0 0 (.inl rfl) (fun hh => by cases hh) (fun _ => ⟨hnewel, (hcontent r2 hR).mono p2⟩)
  obtain ⟨k3, k4⟩ := congrS k1 (outerSt [{ insB [] with k := .dead }, insB xs] ++ withKeys newBase 0 [insB (es.take i ++ (xs ++ es.drop i))]) (hlookS { insB [] with k := .dead } { insB es with k := .dead } _ rfl rfl rfl)
  refine ⟨_, .slice (some ⟨c.w.heap.size, 0, none⟩) (es.length + 1) Gc, ?_, rfl, k3, (p2.trans k2).trans k4, ?_, ?_⟩
  ·show ({ w2 with heap := c.w.heap.push (.cells r2 57 (0, 0)) } : World) = w2
   rw [← hheap]
  ·refine .sref _ _ _ _ _ rfl (insB (es.take i ++ (xs ++ es.drop i))) (by rfl) (Nat.le_refl _) (fun _ _ => ⟨Gc, r2, 57, (0, 0), ?_, ?_, hgl, ?_, ?_⟩)
   ·show Value.slice (some ⟨c.w.heap.size, _, none⟩) _ _ = Value.slice (some ⟨updR c.R newBase c.w.heap.size newBase, _, none⟩) _ _
    simp [updR]
   ·show (es.take i ++ (xs ++ es.drop i)).length ≤ 0 + Gc
    rw [hnl]; omega
   ·show (c.w.heap.push _)[updR c.R newBase c.w.heap.size newBase]? = _
    simp only [updR, if_true]
    exact Array.getElem?_push_size
   ·show (0 + Gc) * 4 ≤ r2.size
    rw [q4, q2, hRs]; omega
  ·simp

end Go.Proofs.Ytkanmigbbpppnaa
