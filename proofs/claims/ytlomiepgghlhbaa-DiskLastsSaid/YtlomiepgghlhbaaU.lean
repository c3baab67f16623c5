/- A part of the proof: contracts of functions. -/
import Derived.Test.YtlomiepgghlhbaaT
import Derived.Test.YtlomiepgghlhbaaAbAny

set_option linter.unusedVariables false
set_option linter.unusedSimpArgs false
set_option maxRecDepth 100000
namespace Go.Proofs.Ytlomiepgghlhbaa
open Go Go.Ab
set_option maxHeartbeats 8000000
/-- What lasts. -/
def cruQ (L : List (List UInt8)) (W : List Put_T) (keep : List Int) : (Bool × List (List UInt8)) × (Bool × List Put_T) × Int × Bool := ((false, crashF keep W 0 L), (true, []), 0, false)
noncomputable def cruS : FS := ⟨cru_sh, cru_fs, cru_rsh, cru_rfs, fun d => dskP d.1.2 d.2.1.2, fun d => cruQ d.1.2 d.2.1.2 d.2.2.2.2.2, none⟩
theorem cru_V (lx : Bool) (L : List (List UInt8)) (wx : Bool) (W : List Put_T) (arm : Int) (down : Bool) (kx : Bool) (keep : List Int) (h : dskP L W) : cru_r lx L wx W arm down kx keep = some (cruS.out (cruQ L W keep)) := by
  obtain ⟨h0, h1, h2, h3, h4⟩ := h
  have e2 : ∀ (x : Bool) (l : List Put_T), (cloneG (x, l)).2 = l := fun _ _ => rfl
  have e1 : ∀ (x : Bool) (l : List (List UInt8)), (cloneF (x, l)).2 = l := fun _ _ => rfl
  have hL : L.isEmpty = false := by cases L with | nil => exact absurd rfl h0 | cons a l => rfl
  unfold cru_r
  refine oK_clL lx L (by omega) ?_
  rw [e1, isE1, hL, bK_false]
  refine oK_clW wx W (by omega) ?_
  rw [e2, isE2]
  simp only [Nat.zero_add, Nat.le_refl, decide_true, bK_true, List.drop_zero, List.take_length]
  cases W with
  | nil => exact oK_lp crH_inj ((wx, []), L, arm, down, kx, keep) ⟨Nat.zero_le _, h3, h4⟩ rfl
  | cons p W => exact oK_lp crH_inj ((wx, p :: W), L, arm, down, kx, keep) ⟨Nat.le_trans h2 (by decide), h3, h4⟩ rfl
theorem cruO : ∀ d : Tu cruS.fs, cruS.pre d → CallOk Try.prog 12 (cruS.args d) [] (cruS.ret d) := by
  rintro ⟨⟨lx, L⟩, ⟨wx, W⟩, arm, down, kx, keep⟩ h
  exact CallOk.unit (fnOk PK2_ok 21) rfl crP_ok.loops (o := false) (by show 0 ≤ 1000; decide) ((cru_w lx L wx W arm down kx keep).trans (cru_V lx L wx W arm down kx keep h))
/-- What is read. -/
def reaQ (L : List (List UInt8)) (W : List Put_T) (down : Bool) (i : Int) : List UInt8 × Bool := if down = false ∧ 0 ≤ i ∧ i < (L.length : Int) then (lastQ W i (L[i.toNat]?.getD []), true) else ([], false)
noncomputable def reaS : FS := ⟨[some 4, none], [.fl false [.fs], .fl true Put_tfs, .fi .i64, .fb, .fi .i64], [none, none], [.fs, .fb], fun d => d.1.2.length ≤ 1000 ∧ d.2.1.2.length ≤ 1000, fun d => reaQ d.1.2 d.2.1.2 d.2.2.2.1 d.2.2.2.2, none⟩
theorem reaQ_eq (lx : Bool) (L : List (List UInt8)) (wx : Bool) (W : List Put_T) (arm : Int) (down : Bool) (i : Int) : readQ ((lx, L), (wx, W), arm, down) i = reaQ L W down i := by
  unfold readQ reaQ thereQ
  by_cases h1 : down = false <;> by_cases h2 : 0 ≤ i <;> by_cases h3 : i < (L.length : Int) <;> simp [h1, h2, h3]
theorem readG_at (lx : Bool) (L : List (List UInt8)) (wx : Bool) (W : List Put_T) (arm : Int) (down : Bool) (i : Int) (h1 : L.length ≤ 1000) (h2 : W.length ≤ 1000) : readG [.agg [.slc lx (L.map AV.str), .slc wx (W.map fun p => AV.agg [.int .i64 p.1, .str p.2]), .int .i64 arm, .bool down], .int .i64 i] [] = some { pan := false, res := .tup [.str (reaQ L W down i).1, .bool (reaQ L W down i).2], out := [], new := [] } := by
  unfold readG
  simp only [strsA_map, putsA_map, reaQ_eq]
  rw [if_pos ⟨by omega, by omega, rfl⟩]
theorem reaO : ∀ d : Tu reaS.fs, reaS.pre d → CallOk Try.prog 14 (reaS.args d) [] (reaS.ret d) := by
  rintro ⟨⟨lx, L⟩, ⟨wx, W⟩, arm, down, i⟩ ⟨h1, h2⟩
  exact CallOk.prim readG_ok (readG_at lx L wx W arm down i h1 h2)
def zs32 : List UInt8 := [0, 0, 0, 0, 0, 0, 0, 0, 0, 0, 0, 0, 0, 0, 0, 0, 0, 0, 0, 0, 0, 0, 0, 0, 0, 0, 0, 0, 0, 0, 0, 0]
/-- So many sectors of noughts. -/
def newL (n : Nat) : List (List UInt8) := List.replicate n zs32
theorem new4 : evF Try.prog (cfg.with PKs0) 21 8 [.int .i64 4] [] = some { pan := false, res := .agg (Tu.mk Disk_tfs ((false, newL 4), (true, []), 0, false)), out := [], new := [] } := by kernel_rfl
theorem new5 : evF Try.prog (cfg.with PKs0) 21 8 [.int .i64 5] [] = some { pan := false, res := .agg (Tu.mk Disk_tfs ((false, newL 5), (true, []), 0, false)), out := [], new := [] } := by kernel_rfl
def newQ (n : Int) : (Bool × List (List UInt8)) × (Bool × List Put_T) × Int × Bool := ((false, newL n.toNat), (true, []), 0, false)
noncomputable def newS : FS := ⟨[none], [.fi .i64], [some 4], Disk_tfs, fun n => (n : Int) = 4 ∨ (n : Int) = 5, fun n => newQ n, none⟩
theorem newO : ∀ d : Tu newS.fs, newS.pre d → CallOk Try.prog 8 (newS.args d) [] (newS.ret d) := by
  rintro n (rfl | rfl)
  · exact ⟨(fnOk PKs0_ok 21).there new4, (fnOk PKs0_ok 21).ok new4⟩
  · exact ⟨(fnOk PKs0_ok 21).there new5, (fnOk PKs0_ok 21).ok new5⟩
def begunS : FS := ⟨[], [], [none], [.fb], fun _ => True, fun _ => true, none⟩
theorem begunO : ∀ d : Tu begunS.fs, begunS.pre d → CallOk Try.prog 7 (begunS.args d) [] (begunS.ret d) := fun _ _ => ⟨(fnOk PKr_ok 21).there begun_e, (fnOk PKr_ok 21).ok begun_e⟩
noncomputable def B1 : PKs := PKn.add 7 begunS.pk
noncomputable def B2 : PKs := B1.add 8 newS.pk
noncomputable def B3 : PKs := B2.add 10 fluS.pk
noncomputable def B4 : PKs := B3.add 14 reaS.pk
noncomputable def B5 : PKs := B4.add 16 wriS.pk
noncomputable def B6 : PKs := B5.add 18 secS.pk
noncomputable def B7 : PKs := B6.add 12 cruS.pk
theorem B1_ok : PKsOk Try.prog B1 := PKsOk.anyF PKn_ok 7 begunS begunO
theorem B2_ok : PKsOk Try.prog B2 := PKsOk.anyF B1_ok 8 newS newO
theorem B3_ok : PKsOk Try.prog B3 := PKsOk.anyF B2_ok 10 fluS fluO
theorem B4_ok : PKsOk Try.prog B4 := PKsOk.anyF B3_ok 14 reaS reaO
theorem B5_ok : PKsOk Try.prog B5 := PKsOk.anyF B4_ok 16 wriS wriO
theorem B6_ok : PKsOk Try.prog B6 := PKsOk.anyF B5_ok 18 secS secO
theorem B7_ok : PKsOk Try.prog B7 := PKsOk.anyF B6_ok 12 cruS cruO

end Go.Proofs.Ytlomiepgghlhbaa
