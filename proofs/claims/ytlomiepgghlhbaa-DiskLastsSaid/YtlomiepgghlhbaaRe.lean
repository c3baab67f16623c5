/- A part of the proof: contracts of functions. -/
import Derived.Test.YtlomiepgghlhbaaRd
import Derived.Test.YtlomiepgghlhbaaAbAny

set_option linter.unusedVariables false
set_option linter.unusedSimpArgs false
set_option maxRecDepth 100000
namespace Go.Proofs.Ytlomiepgghlhbaa
open Go Go.Ab
set_option maxHeartbeats 4000000
set_option maxRecDepth 100000
open Go.RowKit Go.Shelf
attribute [local go_sem] Oper.semAt_some
theorem tS : Try.prog.underlying 25 = some (.slice 9) := by kernel_rfl
theorem tSE : (Try.prog.info? 9).map (fun i => (i.zero, i.size, i.bytes)) = some (some (.string ⟨#[]⟩), 1, 16) := by kernel_rfl
theorem nt26 : Try.f26.ntmps = 19 := by kernel_rfl
theorem nt14 : Try.f14.ntmps = 28 := by kernel_rfl
theorem there_in (F : Fence) (n : Nat) (h26 : F.fn 26) (hro : F.round = none) (a1 a2 : Option Addr) (l1 c1 l2 c2 : Nat) (arm i : Int) (down : Bool) (w : World) :
    CallsIn F n Try.prog 26 #[.agg #[.slice a1 l1 c1, .slice a2 l2 c2, .int .i64 arm, .bool down], .int .i64 i] w fun e w' => e = .returned (.bool (!down && (decide (0 ≤ i) && decide (i < (l1 : Int))))) ∧ w' = w.alloc (.cells #[.slice a1 l1 c1, .slice a2 l2 c2, .int .i64 arm, .bool down] 28) := by
  have u3 := run_underlying tI; have u4 := run_underlying tB; have u26 := run_underlying tP
  refine callsIn_of_wp Try.func26 rfl h26 ?_ hro
  simp only [nt26, List.size_toArray, List.length_cons, List.length_nil, Nat.reduceAdd, Nat.reduceSub, Array.replicate_succ, Array.replicate_zero, List.push_toArray, List.append_toArray, List.nil_append, List.cons_append]
  gi_wp2
  · next h => rw [h]; go_ret; exact ⟨rfl, rfl⟩
  · next h h2 => go_ret; exact ⟨by simp [h, h2], by simp [h]⟩
  · next h h2 => go_ret; exact ⟨by simp; omega, rfl⟩
theorem cO (w : World) (a b : Addr) (v : Value) (h : a.block ≠ b.block) : (w.setCell a v).cell? b = w.cell? b := World.cell?_setCell_other _ _ _ _ (fun e => h (congrArg Addr.block e))
/-- Who reads, where there is none: by the last that waits, or what lasts. -/
theorem read_in (F : Fence) (n : Nat) (h14 : F.fn 14) (h26 : F.fn 26) (h27 : F.fn 27) (h39 : F.fn 39) (hro : F.round = none) (hn : 4 ≤ n) (a1 a2 : Option Addr) (l1 c1 l2 c2 : Nat) (arm i : Int) (pu : Nat → Int) (pb : Nat → List UInt8) (hreach : l2 ≤ 1000000) (w : World)
    (hI : Puts w.heap.size w a2 l2 (fun j => .int .i64 (pu j)) (fun j => .string ⟨(pb j).toArray⟩)) (k : Nat) (hik : i = (k : Int)) (hk : k < l1) (hk2 : l1 ≤ 1000000) (ss : List UInt8) (b1 o1 : Nat) (ha1 : a1 = some ⟨b1, o1, none⟩) (hb1 : b1 < w.heap.size) (hS : w.cell? ⟨b1, o1 + k, none⟩ = some (.string ⟨ss.toArray⟩)) :
    CallsIn F n Try.prog 14 #[.agg #[.slice a1 l1 c1, .slice a2 l2 c2, .int .i64 arm, .bool false], .int .i64 i] w fun e w' =>
      ((e = .returned (.tuple #[.string ⟨ss.toArray⟩, .bool true]) ∧ ∀ j, j < l2 → pu j ≠ i) ∨ (∃ m, m < l2 ∧ pu m = i ∧ (∀ j, m < j → j < l2 → pu j ≠ i) ∧ e = .returned (.tuple #[.string ⟨(pb m).toArray⟩, .bool true]))) ∧ Below w.heap.size w w' := by
  have u3 := run_underlying tI; have u4 := run_underlying tB; have u26 := run_underlying tP; have u25 := run_underlying tS
  have h1 : 1 ≤ n := by omega
  subst ha1 hik
  have hk' : (k : Int) < (l1 : Int) := by omega
  refine callsIn_of_wp_marks Try.func14 rfl h14 ?_ hro
  simp only [nt14, List.size_toArray, List.length_cons, List.length_nil, Nat.reduceAdd, Nat.reduceSub, Array.replicate_succ, Array.replicate_zero, List.push_toArray, List.append_toArray, List.nil_append, List.cons_append]
  gi_wp2_with (first | (gi_at_call 26; refine (there_in F (n - 1) h26 hro _ _ _ _ _ _ _ _ _ _).mono ?_; rintro e w' ⟨rfl, rfl⟩) | (gi_at_call 27; refine (bw_in F (n - 1) h27 hro _ _ _ _).mono ?_; rintro e w' ⟨rfl, rfl⟩))
  have hd : ∀ W0, W0 = ((((((w.alloc (.cells #[.slice (some ⟨b1, o1, none⟩) l1 c1, .slice a2 l2 c2, .int .i64 arm, .bool false] 28)).alloc (.cells #[.int .i64 k] 3)).alloc (.cells #[.string ⟨#[]⟩] 9)).alloc (.cells #[.bool false] 4)).alloc (.cells #[.slice (some ⟨b1, o1, none⟩) l1 c1, .slice a2 l2 c2, .int .i64 arm, .bool false] 28)).alloc (.cells #[.slice a2 l2 c2] 26)) →
      W0.heap.size = w.heap.size + 6 ∧ Below w.heap.size w W0 ∧ W0.cell? ⟨w.heap.size, 0, none⟩ = some (.slice (some ⟨b1, o1, none⟩) l1 c1) ∧ W0.cell? ⟨w.heap.size + 1, 0, none⟩ = some (.int .i64 k) ∧ W0.cell? ⟨w.heap.size + 1 + 1, 0, none⟩ = some (.string ⟨#[]⟩) ∧ W0.cell? ⟨w.heap.size + 1 + 1 + 1, 0, none⟩ = some (.bool false) ∧ W0.cell? ⟨w.heap.size + 1 + 1 + 1 + 1 + 1, 0, none⟩ = some (.slice a2 l2 c2) ∧ W0.frozen? ⟨w.heap.size + 1 + 1, 0, none⟩ = false ∧ W0.frozen? ⟨w.heap.size + 1 + 1 + 1, 0, none⟩ = false := by
    rintro W0 rfl
    refine ⟨by simp, ((((((Below.refl _ w).alloc (Nat.le_refl _) _).alloc (by simp) _).alloc (by simp; omega) _).alloc (by simp; omega) _).alloc (by simp; omega) _).alloc (by simp; omega) _, ?_, ?_, ?_, ?_, ?_, ?_, ?_⟩
    all_goals simp [go_sem]
  obtain ⟨W0, hW0⟩ : ∃ W0, ((((((w.alloc (.cells #[.slice (some ⟨b1, o1, none⟩) l1 c1, .slice a2 l2 c2, .int .i64 arm, .bool false] 28)).alloc (.cells #[.int .i64 k] 3)).alloc (.cells #[.string ⟨#[]⟩] 9)).alloc (.cells #[.bool false] 4)).alloc (.cells #[.slice (some ⟨b1, o1, none⟩) l1 c1, .slice a2 l2 c2, .int .i64 arm, .bool false] 28)).alloc (.cells #[.slice a2 l2 c2] 26)) = W0 := ⟨_, rfl⟩
  obtain ⟨hsz, hB0, g0, g1, g2, g3, g5, z2, z3⟩ := hd W0 hW0.symm
  rw [hW0]
  clear hW0 hd
  refine wpIn_rangeFunc_ownH hro h1 (gf := 39) (lb := #[.pointer (some ⟨w.heap.size + 1 + 1 + 1 + 1 + 1, 0, none⟩)]) rfl h39 (enters_of Try.func39 (by kernel_rfl) rfl)
    (bw_stops F (n - 1) h39 hro (by omega) (w.heap.size + 1 + 1 + 1 + 1 + 1) W0.heap.size a2 l2 c2 (fun j => .int .i64 (pu j)) (fun j => .string ⟨(pb j).toArray⟩) (fun _ => rfl) (fun _ => rfl) hreach W0 (by omega) (by omega) (Nat.le_refl _) g5 (by
      rcases hI.below hB0 with e | ⟨b, off, e, hb, hc⟩
      · exact .inl e
      · exact .inr ⟨b, off, e, by omega, hc⟩)) belowK_t (belowK_b (Nat.le_refl _)) (Below.refl _ _) (fun _ => rfl)
    (fun pre W => (∀ x ∈ pre, pu x ≠ k) ∧ Below W0.heap.size W0 W)
    (fun c pre W => (c = .ret ∧ ∃ ini last, pre = ini ++ [last] ∧ (∀ x ∈ ini, pu x ≠ k) ∧ pu last = k ∧ W.cell? ⟨w.heap.size + 1 + 1, 0, none⟩ = some (.string ⟨(pb last).toArray⟩) ∧ W.cell? ⟨w.heap.size + 1 + 1 + 1, 0, none⟩ = some (.bool true)) ∧ Below w.heap.size w W)
    (OwnFrom.and (fun _ _ _ _ hs _ _ => hs) (ownFrom_below (Nat.le_refl _) (Nat.le_refl _)))
    (fun c => OwnFrom.and (Own.from (fun s A B row hs hg hr => by obtain ⟨hc, ini, last, e1, e2, e3, e4, e5⟩ := hs; exact ⟨hc, ini, last, e1, e2, e3, cell_kept e4 hg hr, cell_kept e5 hg hr⟩) _) (ownFrom_below (Nat.le_refl _) (by omega)))
    ⟨fun _ h => (by cases h), Below.refl _ _⟩
    (fun x a' W => ∃ Bx, W0.heap.size ≤ Bx ∧ W.cell? ⟨Bx, 0, none⟩ = some (.int .i64 (pu x)) ∧ W.cell? ⟨Bx, 1, none⟩ = some (.string ⟨(pb x).toArray⟩) ∧ a' = { tmps := #[.agg #[.slice (some ⟨b1, o1, none⟩) l1 c1, .slice a2 l2 c2, .int .i64 arm, .bool false], .int .i64 k, .pointer (some ⟨w.heap.size, 0, none⟩), .pointer (some ⟨w.heap.size + 1, 0, none⟩), .pointer (some ⟨w.heap.size + 1 + 1, 0, none⟩), .pointer (some ⟨w.heap.size + 1 + 1 + 1, 0, none⟩), undef, .pointer (some ⟨Bx, 0, none⟩), .agg #[.slice (some ⟨b1, o1, none⟩) l1 c1, .slice a2 l2 c2, .int .i64 arm, .bool false], .int .i64 k, .bool true, .bool false, .pointer (some ⟨w.heap.size, 1, none⟩), .slice a2 l2 c2, .func (.func 39) #[] #[.pointer (some ⟨w.heap.size + 1 + 1 + 1 + 1 + 1, 0, none⟩)], .int .i64 (x : Int), .agg #[.int .i64 (pu x), .string ⟨(pb x).toArray⟩], undef, undef, undef, undef, undef, undef, undef, undef, undef, undef, undef], defers := [] })
    (fun x a' _ X Y row hs hg hr => by obtain ⟨Bx, h0, h1, h2, h3⟩ := hs; exact ⟨Bx, h0, cell_kept h1 hg (fun r e => (hr r e).2), cell_kept h2 hg (fun r e => (hr r e).2), h3⟩)
    ?assign ?body ?done ?stop
  case assign =>
    rintro l pre x W K ⟨hp, hB1⟩ hK
    gi_wp2
    exact hK _ _ ((KeepsOthers.alloc _ _).from _) ((Below.refl _ W).alloc hB1.size _) ⟨hp, hB1.alloc hB1.size _⟩ ⟨W.heap.size, hB1.size, by simp [go_sem], by simp [go_sem], rfl⟩
  case body =>
    rintro l pre x a' W hl ⟨r, hr⟩ ⟨hp, hB1⟩ ⟨Bx, hBx, d0, d1, rfl⟩ hlt
    have q1 := (hB1.cell (p := ⟨w.heap.size + 1, 0, none⟩) (by show w.heap.size + 1 < _; omega)).trans g1
    have q2 := (hB1.cell (p := ⟨w.heap.size + 1 + 1, 0, none⟩) (by show w.heap.size + 1 + 1 < _; omega)).trans g2
    have q3 := (hB1.cell (p := ⟨w.heap.size + 1 + 1 + 1, 0, none⟩) (by show w.heap.size + 1 + 1 + 1 < _; omega)).trans g3
    have r2 := (hB1.frozen (p := ⟨w.heap.size + 1 + 1, 0, none⟩) (by show w.heap.size + 1 + 1 < _; omega)).trans z2
    have r3 := (hB1.frozen (p := ⟨w.heap.size + 1 + 1 + 1, 0, none⟩) (by show w.heap.size + 1 + 1 + 1 < _; omega)).trans z3
    gi_wp2
    · have hx : pu x = k := by rename_i hh; simpa using hh
      refine ⟨((KeepsOthers.setCell _ _ _).trans (KeepsOthers.setCell _ _ _)).from _, ⟨rfl, pre, x, rfl, hp, hx, ?_, ?_⟩, ((hB0.trans (hB1.mono (by omega))).setCell (p := ⟨w.heap.size + 1 + 1, 0, none⟩) (by show _ ≤ w.heap.size + 1 + 1; omega) _).setCell (p := ⟨w.heap.size + 1 + 1 + 1, 0, none⟩) (by show _ ≤ w.heap.size + 1 + 1 + 1; omega) _⟩
      · refine (cO _ _ _ _ (by show _ ≠ _; simp)).trans ?_
        exact World.cell?_setCell_same' _ _ _ (by rw [q2]; rfl)
      · refine World.cell?_setCell_same' _ _ _ ?_
        rw [cO _ _ _ _ (by show _ ≠ _; simp), q3]; rfl
    · have hx : ¬ pu x = k := by rename_i hh; simpa using hh
      exact ⟨KeepsFrom.refl _ _, Below.refl _ _, fun y hy => (List.mem_append.1 hy).elim (hp y) (fun e => by simp at e; subst e; exact hx), hB1⟩
  case done =>
    rintro D ys W hD rfl ⟨hne, hB1⟩ hK
    have q0 := (hB1.cell (p := ⟨w.heap.size, 0, none⟩) (by show w.heap.size < _; omega)).trans g0
    have q1 := (hB1.cell (p := ⟨w.heap.size + 1, 0, none⟩) (by show w.heap.size + 1 < _; omega)).trans g1
    have q2 := (hB1.cell (p := ⟨w.heap.size + 1 + 1, 0, none⟩) (by show w.heap.size + 1 + 1 < _; omega)).trans g2
    have q3 := (hB1.cell (p := ⟨w.heap.size + 1 + 1 + 1, 0, none⟩) (by show w.heap.size + 1 + 1 + 1 < _; omega)).trans g3
    have r2 := (hB1.frozen (p := ⟨w.heap.size + 1 + 1, 0, none⟩) (by show w.heap.size + 1 + 1 < _; omega)).trans z2
    have r3 := (hB1.frozen (p := ⟨w.heap.size + 1 + 1 + 1, 0, none⟩) (by show w.heap.size + 1 + 1 + 1 < _; omega)).trans z3
    have qS := ((hB0.trans (hB1.mono (by omega))).cell (p := ⟨b1, o1 + k, none⟩) hb1).trans hS
    gi_wp2
    have hK' := (KeepsOthers.setCell (W.setCell ⟨w.heap.size + 1 + 1, 0, none⟩ (.string ⟨ss.toArray⟩)) ⟨w.heap.size + 1 + 1 + 1, 0, none⟩ (.bool true)).same D _ ((KeepsOthers.setCell W ⟨w.heap.size + 1 + 1, 0, none⟩ (.string ⟨ss.toArray⟩)).same D _ hK rfl) rfl
    refine ⟨by simp, .inl ⟨_, _, rfl, run_takeDeferred hK', ?_⟩⟩
    have s2 : ((W.setCell ⟨w.heap.size + 1 + 1, 0, none⟩ (.string ⟨ss.toArray⟩)).setCell ⟨w.heap.size + 1 + 1 + 1, 0, none⟩ (.bool true)).cell? ⟨w.heap.size + 1 + 1, 0, none⟩ = some (.string ⟨ss.toArray⟩) := by
      refine (cO _ _ _ _ (by show _ ≠ _; simp)).trans ?_
      exact World.cell?_setCell_same' _ _ _ (by rw [q2]; rfl)
    have s3 : ((W.setCell ⟨w.heap.size + 1 + 1, 0, none⟩ (.string ⟨ss.toArray⟩)).setCell ⟨w.heap.size + 1 + 1 + 1, 0, none⟩ (.bool true)).cell? ⟨w.heap.size + 1 + 1 + 1, 0, none⟩ = some (.bool true) := by
      refine World.cell?_setCell_same' _ _ _ ?_
      rw [cO _ _ _ _ (by show _ ≠ _; simp), q3]; rfl
    have hc2 := cell_kept s2 (grownBy_putObj' _ D (.deferred none)) (fun r e => by cases e; exact ⟨_, hK', rfl⟩)
    have hc3 := cell_kept s3 (grownBy_putObj' _ D (.deferred none)) (fun r e => by cases e; exact ⟨_, hK', rfl⟩)
    refine ⟨.tuple #[.string ⟨ss.toArray⟩, .bool true], ?_, .inl ⟨rfl, fun j hj => hne j ?_⟩, (((hB0.trans (hB1.mono (by omega))).setCell (p := ⟨w.heap.size + 1 + 1, 0, none⟩) (by show _ ≤ w.heap.size + 1 + 1; omega) _).setCell (p := ⟨w.heap.size + 1 + 1 + 1, 0, none⟩) (by show _ ≤ w.heap.size + 1 + 1 + 1; omega) _).trans (belowK_b (w := w) (Nat.le_refl _) _ D _ _ (by omega) hK' rfl rfl)⟩
    · simp [results, Try.f14, go_sem, hc2, hc3]
    · simp only [upto, List.mem_map, List.mem_range]; exact ⟨l2 - 1 - j, by omega, by omega⟩
  case stop =>
    rintro D c pre W hD ⟨k2, hk2', rfl⟩ ⟨⟨rfl, ini, last, e1, e2, e3, e4, e5⟩, hB⟩ hK
    gi_wp2
    refine ⟨by simp, .inl ⟨_, _, rfl, run_takeDeferred hK, ?_⟩⟩
    have hc2 := cell_kept e4 (grownBy_putObj' _ D (.deferred none)) (fun r e => by cases e; exact ⟨_, hK, rfl⟩)
    have hc3 := cell_kept e5 (grownBy_putObj' _ D (.deferred none)) (fun r e => by cases e; exact ⟨_, hK, rfl⟩)
    obtain ⟨k', rfl⟩ : ∃ k', k2 = k' + 1 := by
      cases k2 with
      | zero => simp [upto] at e1
      | succ k' => exact ⟨k', rfl⟩
    rw [upto_succ] at e1
    obtain ⟨rfl, e6⟩ := List.append_inj' e1 rfl
    obtain rfl : l2 - 1 - k' = last := by simpa using e6
    refine ⟨.tuple #[.string ⟨(pb (l2 - 1 - k')).toArray⟩, .bool true], ?_, .inr ⟨l2 - 1 - k', by omega, e3, fun j hj hj2 => e2 j ?_, rfl⟩, hB.trans (belowK_b (w := w) (Nat.le_refl _) W D _ _ (by omega) hK rfl rfl)⟩
    · simp [results, Try.f14, go_sem, hc2, hc3]
    · simp only [upto, List.mem_map, List.mem_range]; exact ⟨l2 - 1 - j, by omega, by omega⟩

end Go.Proofs.Ytlomiepgghlhbaa
