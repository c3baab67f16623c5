/- A part of the proof: contracts of functions. -/
import Derived.Test.YtlomiepgghlhbaaS
import Derived.Test.YtlomiepgghlhbaaAbAny

set_option linter.unusedVariables false
set_option linter.unusedSimpArgs false
set_option maxRecDepth 100000
namespace Go.Proofs.Ytlomiepgghlhbaa
open Go Go.Ab
set_option maxHeartbeats 8000000
/-- A disk that is flushed, and whether it was. -/
def fluQ (L : List (List UInt8)) (W : List Put_T) (arm : Int) (down : Bool) : (Bool × List (List UInt8)) × (Bool × List Put_T) × Int × Bool × Bool :=
  if down = true then ((false, L), (W.isEmpty, W), arm, true, false) else ((false, flushF L W), (true, []), arm, false, true)
def dskP (L : List (List UInt8)) (W : List Put_T) : Prop := L ≠ [] ∧ L.length ≤ 1000 ∧ W.length ≤ 1000 ∧ sh1 L ∧ sh2 W
noncomputable def fluS : FS := ⟨flu_sh, flu_fs, flu_rsh, flu_rfs, fun d => dskP d.1.2 d.2.1.2, fun d => fluQ d.1.2 d.2.1.2 d.2.2.1 d.2.2.2, none⟩
theorem isE1 (l : List (List UInt8)) : (List.map (mkV false [Lf.fs]) l).isEmpty = l.isEmpty := by cases l <;> rfl
theorem isE2 (l : List Put_T) : (List.map (mkV true Put_tfs) l).isEmpty = l.isEmpty := by cases l <;> rfl
theorem tk1 (l : List (List UInt8)) (n : Nat) (h : n = l.length) : List.take n (List.map (mkV false [Lf.fs]) l) = List.map (mkV false [Lf.fs]) l := List.take_of_length_le (by simp [h])
theorem tk2 (l : List Put_T) (n : Nat) (h : n = l.length) : List.take n (List.map (mkV true Put_tfs) l) = List.map (mkV true Put_tfs) l := List.take_of_length_le (by simp [h])
theorem flu_V (lx : Bool) (L : List (List UInt8)) (wx : Bool) (W : List Put_T) (arm : Int) (down : Bool) (h : dskP L W) : flu_r lx L wx W arm down = some (fluS.out (fluQ L W arm down)) := by
  obtain ⟨h0, h1, h2, h3, h4⟩ := h
  have e2 : ∀ (x : Bool) (l : List Put_T), (cloneG (x, l)).2 = l := fun _ _ => rfl
  have e1 : ∀ (x : Bool) (l : List (List UInt8)), (cloneF (x, l)).2 = l := fun _ _ => rfl
  have hL : L.isEmpty = false := by cases L with | nil => exact absurd rfl h0 | cons a l => rfl
  unfold flu_r
  refine oK_clL lx L (by omega) ?_
  rw [e1, isE1, hL, bK_false]
  refine oK_clW wx W (by omega) ?_
  rw [e2, isE2]
  simp only [Nat.zero_add, Nat.le_refl, decide_true, bK_true, List.drop_zero, List.take_length]
  cases down with
  | true =>
    have hq : fluQ L W arm true = ((false, L), (W.isEmpty, W), arm, true, false) := rfl
    rw [hq]
    simp only [bK_true]
    cases W with
    | nil => rfl
    | cons p W => rfl
  | false =>
    have hq : fluQ L W arm false = ((false, flushF L W), (true, []), arm, false, true) := rfl
    rw [hq]
    cases W with
    | nil => exact oK_lp flH_inj ((wx, []), L, arm) ⟨Nat.zero_le _, h3, h4⟩ rfl
    | cons p W => exact oK_lp flH_inj ((wx, p :: W), L, arm) ⟨Nat.le_trans h2 (by decide), h3, h4⟩ rfl
theorem fluO : ∀ d : Tu fluS.fs, fluS.pre d → CallOk Try.prog 10 (fluS.args d) [] (fluS.ret d) := by
  rintro ⟨⟨lx, L⟩, ⟨wx, W⟩, arm, down⟩ h
  exact CallOk.unit (fnOk PK2_ok 21) rfl flP_ok.loops (o := false) (by show 0 ≤ 1000; decide) ((flu_w lx L wx W arm down).trans (flu_V lx L wx W arm down h))
/-- What lasts of each behind a crash. -/
def crashF (keep : List Int) : List Put_T → Nat → List (List UInt8) → List (List UInt8)
  | [], _, L => L
  | p :: W, i, L => crashF keep W (i + 1) (if i < keep.length then lastF L p (minI (keep.getD i 0) 32) else L)
theorem crashF_len (keep : List Int) : ∀ (W : List Put_T) (i : Nat) (L : List (List UInt8)), (crashF keep W i L).length = L.length
  | [], _, _ => rfl
  | p :: W, i, L => by
    show (crashF keep W (i + 1) _).length = _
    rw [crashF_len keep W]
    split
    · exact lastF_len _ _ _
    · rfl
theorem crashF_sh (keep : List Int) : ∀ (W : List Put_T) (i : Nat) (L : List (List UInt8)), sh1 L → sh1 (crashF keep W i L)
  | [], _, _, h => h
  | p :: W, i, L, h => by
    refine crashF_sh keep W (i + 1) _ ?_
    split
    · exact lastF_sh _ _ h
    · exact h
theorem crashF_at (keep : List Int) (W : List Put_T) (i : Nat) (h : i < W.length) (L : List (List UInt8)) : crashF keep (W.drop i) i L = crashF keep (W.drop (i + 1)) (i + 1) (if i < keep.length then lastF L W[i] (minI (keep.getD i 0) 32) else L) := by
  rw [List.drop_eq_getElem_cons h]; rfl
theorem cr_step (wx : Bool) (L : List (List UInt8)) (W : List Put_T) (arm : Int) (down : Bool) (kx : Bool) (keep : List Int) (i : Nat) (hi : i < W.length) (hW : W.length ≤ 100000) (h1 : sh1 L) (h2 : sh2 W) :
    cr_s_r wx L W arm down kx keep i = some (.inl (crh wx (if i < keep.length then lastF L W[i] (minI (keep.getD i 0) 32) else L) W arm down kx keep false ((i : Int) + 1))) := by
  unfold cr_s_r
  have e1 : IntKind.i64.wrap ((i : Int) + 1) = (i : Int) + 1 := w64 (by omega) (by omega)
  rw [e1]
  refine bK_tq (Q := fun z => z = _) (by simp; omega) ?_
  refine oK_atq (Q := fun z => z = _) (fs := Put_tfs) (0, []) (by omega) (by simpa using hi) ?_
  rw [Int.toNat_natCast, getD_at hi]
  have hB := h2 _ (List.getElem_mem hi)
  generalize W[i] = p at hB ⊢
  obtain ⟨At, B⟩ := p
  by_cases hk : i < keep.length
  · rw [if_pos hk]
    refine bK_tq (Q := fun z => z = _) (by simp; omega) ?_
    refine oK_atq (Q := fun z => z = _) (fs := [.fi .i64]) (0 : Int) (by omega) (by simpa using hk) ?_
    rw [Int.toNat_natCast]
    have hlen : ∀ (M : List (List UInt8)), M.length = L.length → (List.map (mkV false [Lf.fs]) M).length = (List.map (mkV false [Lf.fs]) L).length := fun M h => by simp [h]
    generalize keep.getD i 0 = n
    refine lasts_q (R := St ⊕ (Ex × St)) (Q := fun z => z = some (.inl (crh wx (lastF L (At, B) (minI n 32)) W arm down kx keep false ((i : Int) + 1)))) L At B (minI n 32) (fun es => some (Sum.inl { fr := [(1, AV.slc kx (List.map (mkV false [Lf.fi IntKind.i64]) keep)), (4, AV.ptr 64 0 0 0), (5, AV.ptr 176 0 0 0), (13, AV.slc wx (List.map (mkV true Put_tfs) W)), (14, AV.int IntKind.i64 ((List.map (mkV true Put_tfs) W).length : Int)), (15, AV.int IntKind.i64 ((i : Int) + 1))], bs := [(64, { v := 0, k := BK.box, fz := false, sz := 0, es := [AV.slc true [], AV.slc true [], AV.int IntKind.i64 0, AV.bool false] }), (144, { v := 0, k := BK.row, fz := false, sz := 1, es := es }), (145, { v := 0, k := BK.row, fz := false, sz := 2, es := List.map (mkV true Put_tfs) W }), (176, { v := 0, k := BK.box, fz := false, sz := 0, es := [AV.sref 144 0 0 (List.map (mkV false [Lf.fs]) L).length, AV.sref 145 0 0 (List.map (mkV true Put_tfs) W).length, AV.int IntKind.i64 arm, AV.bool down] })], df := [] })) hB h1 ?_
    show some (Sum.inl (St.mk _ _ _)) = some (Sum.inl (St.mk _ _ _))
    rw [← hlen (lastF L (At, B) (minI n 32)) (lastF_len _ _ _)]
    rfl
  · rw [if_neg hk]
    exact bK_fq (Q := fun z => z = _) (by simp; omega) rfl
def crE (L : List (List UInt8)) (W : List Put_T) (arm : Int) (down : Bool) (e : Bool) : Ex × St := (.exit 0, { fr := [(4, .ptr 64 0 0 0), (5, .ptr 176 0 0 0)], bs := crb L W arm down e, df := [] })
theorem crl : (loopsOf 0 (codeOf Try.prog 12)).map (·.1) = [0] := by kernel_rfl
theorem cro : OneLoops Try.prog 12 := by unfold OneLoops; rw [crl]; decide
theorem cra : At 0 (codeOf Try.prog 12) 0 (.loop (bodyAt Try.prog 12 0)) := at_body cro (by rw [crl]; decide)
theorem cr_run (wx : Bool) (W : List Put_T) (arm : Int) (down : Bool) (kx : Bool) (keep : List Int) (hW : W.length ≤ 100000) (h2 : sh2 W) : ∀ (j i : Nat), i + j = W.length → ∀ (L : List (List UInt8)), sh1 L → ∀ (m : Nat), j < m → Runs' Try.prog cfg PK2 12 0 m (crh wx L W arm down kx keep false i) (crE (crashF keep (W.drop i) i L) W arm down false)
  | 0, i, hi, L, h1, m + 1, hm => by
    refine Runs'.done (lp := LP0) LPok.none cra ((cr_s_w wx L W arm down kx keep i).trans ?_)
    unfold cr_s_r
    rw [bK_neg (by simp; omega), List.drop_eq_nil_of_le (by omega)]
    rfl
  | j + 1, i, hi, L, h1, m + 1, hm => by
    have hlt : i < W.length := by omega
    have hs := cr_run wx W arm down kx keep hW h2 j (i + 1) (by omega) (if i < keep.length then lastF L W[i] (minI (keep.getD i 0) 32) else L) (by split <;> first | exact lastF_sh _ _ h1 | exact h1) m (by omega)
    rw [crashF_at keep W i hlt L]
    exact Runs'.step (lp := LP0) LPok.none cra ((cr_s_w wx L W arm down kx keep i).trans (cr_step wx L W arm down kx keep i hlt hW h1 h2)) hs
abbrev CrD : Type := (Bool × List Put_T) × List (List UInt8) × Int × Bool × Bool × List Int
def crH (d : CrD) : St := crh d.1.1 d.2.1 d.1.2 d.2.2.1 d.2.2.2.1 d.2.2.2.2.1 d.2.2.2.2.2 d.1.2.isEmpty 0
theorem cr_all (d : CrD) (h : d.1.2.length ≤ 100000 ∧ sh1 d.2.1 ∧ sh2 d.1.2) : Runs' Try.prog cfg PK2 12 0 rounds (crH d) (crE (crashF d.2.2.2.2.2 d.1.2 0 d.2.1) d.1.2 d.2.2.1 d.2.2.2.1 d.1.2.isEmpty) := by
  obtain ⟨⟨wx, W⟩, L, arm, down, kx, keep⟩ := d
  cases W with
  | nil =>
    exact Runs'.done (lp := LP0) LPok.none cra (cr_0_w wx L arm down kx keep)
  | cons p W =>
    exact cr_run wx (p :: W) arm down kx keep h.1 h.2.2 (p :: W).length 0 (by omega) L h.2.1 rounds (by have := h.1; simp only [rounds] at this ⊢; omega)
noncomputable def crL : LP := LP.of (D := CrD) crH (fun d => d.1.2.length ≤ 100000 ∧ sh1 d.2.1 ∧ sh2 d.1.2) fun d => .ite d.1.2.isEmpty (.leaf (crE (crashF d.2.2.2.2.2 d.1.2 0 d.2.1) d.1.2 d.2.2.1 d.2.2.2.1 true)) (.leaf (crE (crashF d.2.2.2.2.2 d.1.2 0 d.2.1) d.1.2 d.2.2.1 d.2.2.2.1 false))
noncomputable def crP : LPs := LPs.add LP0 12 0 crL
theorem crP_ok : LPok Try.prog cfg PK2 crP 12 := LPok.addH LPok.none cro fun d h => by
  have := cr_all d h
  show Runs' _ _ _ _ _ _ _ (Alt.val (.ite d.1.2.isEmpty (.leaf _) (.leaf _)))
  cases hw : d.1.2.isEmpty with
  | true => rw [hw] at this; exact this
  | false => rw [hw] at this; exact this
theorem crH_inj (d d' : CrD) (h : crH d = crH d') : d = d' := by
  obtain ⟨⟨wx, W⟩, L, arm, down, kx, keep⟩ := d
  obtain ⟨⟨wx', W'⟩, L', arm', down', kx', keep'⟩ := d'
  simp only [crH, crh, St.mk.injEq, List.cons.injEq, Prod.mk.injEq, AV.slc.injEq, and_true, true_and] at h
  obtain ⟨⟨⟨k1, k2⟩, ⟨w1, w2⟩, _⟩, hb⟩ := h
  have e1 := map_inj (fs := Put_tfs) rfl w2
  have e2 := map_inj (agg := false) (fs := [.fi .i64]) rfl k2
  subst e1
  cases W with
  | nil =>
    simp only [List.isEmpty_nil, crb, boxB, rowS, List.cons.injEq, Prod.mk.injEq, Blk.mk.injEq, AV.int.injEq, AV.bool.injEq, and_true, true_and] at hb
    rw [w1, k1, e2, map_inj (agg := false) (fs := [.fs]) rfl hb.1, hb.2.2.1, hb.2.2.2]
  | cons p W =>
    simp only [List.isEmpty_cons, crb, boxB, rowS, List.cons.injEq, Prod.mk.injEq, Blk.mk.injEq, AV.int.injEq, AV.bool.injEq, and_true, true_and] at hb
    rw [w1, k1, e2, map_inj (agg := false) (fs := [.fs]) rfl hb.1, hb.2.2.1, hb.2.2.2]
abbrev cru_id : Nat := 12
abbrev cru_sh : Shp := [some 4, none]
abbrev cru_fs : List Lf := [.fl false [.fs], .fl true Put_tfs, .fi .i64, .fb, .fl false [.fi .i64]]
abbrev cru_rsh : Shp := [some 4]
abbrev cru_rfs : List Lf := [.fl false [.fs], .fl true Put_tfs, .fi .i64, .fb]
noncomputable def cru_r (d_Last_x : Bool) (d_Last : List (List UInt8)) (d_Wait_x : Bool) (d_Wait : List Put_T) (d_Arm : Int) (d_Down : Bool) (keep_x : Bool) (keep : List Int) : Option Ret :=
  oK (cloneS.dec [AV.slc d_Last_x (List.map (mkV false [Lf.fs]) d_Last)] []) fun (d0 : Bool × List (List UInt8)) =>
  bK (List.map (mkV false [Lf.fs]) (cloneF d0).snd).isEmpty
    (oK (clonS.dec [AV.slc d_Wait_x (List.map (mkV true Put_tfs) d_Wait)] []) fun (d1 : Bool × List (Int × List UInt8)) =>
      bK (List.map (mkV true Put_tfs) (cloneG d1).snd).isEmpty
        (oK (crL.dec { fr := [(1, AV.slc keep_x (List.map (mkV false [Lf.fi IntKind.i64]) keep)), (4, AV.ptr 64 0 0 0), (5, AV.ptr 176 0 0 0), (13, AV.slc d_Wait_x (List.map (mkV true Put_tfs) d_Wait)), (14, AV.int IntKind.i64 (↑(List.map (mkV true Put_tfs) d_Wait).length : Int)), (15, AV.int IntKind.i64 0)], bs := [(64, { v := 0, k := BK.box, fz := false, sz := 0, es := [AV.slc true [], AV.slc true [], AV.int IntKind.i64 0, AV.bool false] }), (176, { v := 0, k := BK.box, fz := false, sz := 0, es := [AV.slc true [], AV.slc true [], AV.int IntKind.i64 d_Arm, AV.bool d_Down] })], df := [] }) fun (d2 : (Bool × List (Int × List UInt8)) × List (List UInt8) × Int × Bool × Bool × List Int) =>
          bK d2.fst.snd.isEmpty (bK (decide (0 + (List.map (mkV false [Lf.fs]) (crashF d2.snd.snd.snd.snd.snd d2.fst.snd 0 d2.snd.fst)).length ≤ (List.map (mkV false [Lf.fs]) (crashF d2.snd.snd.snd.snd.snd d2.fst.snd 0 d2.snd.fst)).length)) (some { pan := false, res := AV.agg [AV.slc false (List.take (List.map (mkV false [Lf.fs]) (crashF d2.snd.snd.snd.snd.snd d2.fst.snd 0 d2.snd.fst)).length (List.drop 0 (List.map (mkV false [Lf.fs]) (crashF d2.snd.snd.snd.snd.snd d2.fst.snd 0 d2.snd.fst)))), AV.slc true [], AV.int IntKind.i64 0, AV.bool false], out := [], new := [] }) none) (bK (decide (0 + (List.map (mkV false [Lf.fs]) (crashF d2.snd.snd.snd.snd.snd d2.fst.snd 0 d2.snd.fst)).length ≤ (List.map (mkV false [Lf.fs]) (crashF d2.snd.snd.snd.snd.snd d2.fst.snd 0 d2.snd.fst)).length)) (some { pan := false, res := AV.agg [AV.slc false (List.take (List.map (mkV false [Lf.fs]) (crashF d2.snd.snd.snd.snd.snd d2.fst.snd 0 d2.snd.fst)).length (List.drop 0 (List.map (mkV false [Lf.fs]) (crashF d2.snd.snd.snd.snd.snd d2.fst.snd 0 d2.snd.fst)))), AV.slc true [], AV.int IntKind.i64 0, AV.bool false], out := [], new := [] }) none))
        (oK (crL.dec { fr := [(1, AV.slc keep_x (List.map (mkV false [Lf.fi IntKind.i64]) keep)), (4, AV.ptr 64 0 0 0), (5, AV.ptr 176 0 0 0), (13, AV.slc d_Wait_x (List.map (mkV true Put_tfs) d_Wait)), (14, AV.int IntKind.i64 (↑(List.map (mkV true Put_tfs) d_Wait).length : Int)), (15, AV.int IntKind.i64 0)], bs := [(64, { v := 0, k := BK.box, fz := false, sz := 0, es := [AV.slc true [], AV.slc true [], AV.int IntKind.i64 0, AV.bool false] }), (144, { v := 0, k := BK.row, fz := false, sz := 2, es := List.map (mkV true Put_tfs) (cloneG d1).snd }), (176, { v := 0, k := BK.box, fz := false, sz := 0, es := [AV.slc true [], AV.sref 144 0 0 (List.map (mkV true Put_tfs) (cloneG d1).snd).length, AV.int IntKind.i64 d_Arm, AV.bool d_Down] })], df := [] }) fun (d3 : (Bool × List (Int × List UInt8)) × List (List UInt8) × Int × Bool × Bool × List Int) =>
          bK d3.fst.snd.isEmpty (bK (decide (0 + (List.map (mkV false [Lf.fs]) (crashF d3.snd.snd.snd.snd.snd d3.fst.snd 0 d3.snd.fst)).length ≤ (List.map (mkV false [Lf.fs]) (crashF d3.snd.snd.snd.snd.snd d3.fst.snd 0 d3.snd.fst)).length)) (some { pan := false, res := AV.agg [AV.slc false (List.take (List.map (mkV false [Lf.fs]) (crashF d3.snd.snd.snd.snd.snd d3.fst.snd 0 d3.snd.fst)).length (List.drop 0 (List.map (mkV false [Lf.fs]) (crashF d3.snd.snd.snd.snd.snd d3.fst.snd 0 d3.snd.fst)))), AV.slc true [], AV.int IntKind.i64 0, AV.bool false], out := [], new := [] }) none) (bK (decide (0 + (List.map (mkV false [Lf.fs]) (crashF d3.snd.snd.snd.snd.snd d3.fst.snd 0 d3.snd.fst)).length ≤ (List.map (mkV false [Lf.fs]) (crashF d3.snd.snd.snd.snd.snd d3.fst.snd 0 d3.snd.fst)).length)) (some { pan := false, res := AV.agg [AV.slc false (List.take (List.map (mkV false [Lf.fs]) (crashF d3.snd.snd.snd.snd.snd d3.fst.snd 0 d3.snd.fst)).length (List.drop 0 (List.map (mkV false [Lf.fs]) (crashF d3.snd.snd.snd.snd.snd d3.fst.snd 0 d3.snd.fst)))), AV.slc true [], AV.int IntKind.i64 0, AV.bool false], out := [], new := [] }) none)))
    (oK (clonS.dec [AV.slc d_Wait_x (List.map (mkV true Put_tfs) d_Wait)] []) fun (d4 : Bool × List (Int × List UInt8)) =>
      bK (List.map (mkV true Put_tfs) (cloneG d4).snd).isEmpty
        (oK (crL.dec { fr := [(1, AV.slc keep_x (List.map (mkV false [Lf.fi IntKind.i64]) keep)), (4, AV.ptr 64 0 0 0), (5, AV.ptr 176 0 0 0), (13, AV.slc d_Wait_x (List.map (mkV true Put_tfs) d_Wait)), (14, AV.int IntKind.i64 (↑(List.map (mkV true Put_tfs) d_Wait).length : Int)), (15, AV.int IntKind.i64 0)], bs := [(64, { v := 0, k := BK.box, fz := false, sz := 0, es := [AV.slc true [], AV.slc true [], AV.int IntKind.i64 0, AV.bool false] }), (144, { v := 0, k := BK.row, fz := false, sz := 1, es := List.map (mkV false [Lf.fs]) (cloneF d0).snd }), (176, { v := 0, k := BK.box, fz := false, sz := 0, es := [AV.sref 144 0 0 (List.map (mkV false [Lf.fs]) (cloneF d0).snd).length, AV.slc true [], AV.int IntKind.i64 d_Arm, AV.bool d_Down] })], df := [] }) fun (d5 : (Bool × List (Int × List UInt8)) × List (List UInt8) × Int × Bool × Bool × List Int) =>
          bK d5.fst.snd.isEmpty (bK (decide (0 + (List.map (mkV false [Lf.fs]) (crashF d5.snd.snd.snd.snd.snd d5.fst.snd 0 d5.snd.fst)).length ≤ (List.map (mkV false [Lf.fs]) (crashF d5.snd.snd.snd.snd.snd d5.fst.snd 0 d5.snd.fst)).length)) (some { pan := false, res := AV.agg [AV.slc false (List.take (List.map (mkV false [Lf.fs]) (crashF d5.snd.snd.snd.snd.snd d5.fst.snd 0 d5.snd.fst)).length (List.drop 0 (List.map (mkV false [Lf.fs]) (crashF d5.snd.snd.snd.snd.snd d5.fst.snd 0 d5.snd.fst)))), AV.slc true [], AV.int IntKind.i64 0, AV.bool false], out := [], new := [] }) none) (bK (decide (0 + (List.map (mkV false [Lf.fs]) (crashF d5.snd.snd.snd.snd.snd d5.fst.snd 0 d5.snd.fst)).length ≤ (List.map (mkV false [Lf.fs]) (crashF d5.snd.snd.snd.snd.snd d5.fst.snd 0 d5.snd.fst)).length)) (some { pan := false, res := AV.agg [AV.slc false (List.take (List.map (mkV false [Lf.fs]) (crashF d5.snd.snd.snd.snd.snd d5.fst.snd 0 d5.snd.fst)).length (List.drop 0 (List.map (mkV false [Lf.fs]) (crashF d5.snd.snd.snd.snd.snd d5.fst.snd 0 d5.snd.fst)))), AV.slc true [], AV.int IntKind.i64 0, AV.bool false], out := [], new := [] }) none))
        (oK (crL.dec { fr := [(1, AV.slc keep_x (List.map (mkV false [Lf.fi IntKind.i64]) keep)), (4, AV.ptr 64 0 0 0), (5, AV.ptr 176 0 0 0), (13, AV.slc d_Wait_x (List.map (mkV true Put_tfs) d_Wait)), (14, AV.int IntKind.i64 (↑(List.map (mkV true Put_tfs) d_Wait).length : Int)), (15, AV.int IntKind.i64 0)], bs := [(64, { v := 0, k := BK.box, fz := false, sz := 0, es := [AV.slc true [], AV.slc true [], AV.int IntKind.i64 0, AV.bool false] }), (144, { v := 0, k := BK.row, fz := false, sz := 1, es := List.map (mkV false [Lf.fs]) (cloneF d0).snd }), (145, { v := 0, k := BK.row, fz := false, sz := 2, es := List.map (mkV true Put_tfs) (cloneG d4).snd }), (176, { v := 0, k := BK.box, fz := false, sz := 0, es := [AV.sref 144 0 0 (List.map (mkV false [Lf.fs]) (cloneF d0).snd).length, AV.sref 145 0 0 (List.map (mkV true Put_tfs) (cloneG d4).snd).length, AV.int IntKind.i64 d_Arm, AV.bool d_Down] })], df := [] }) fun (d6 : (Bool × List (Int × List UInt8)) × List (List UInt8) × Int × Bool × Bool × List Int) =>
          bK d6.fst.snd.isEmpty (bK (decide (0 + (List.map (mkV false [Lf.fs]) (crashF d6.snd.snd.snd.snd.snd d6.fst.snd 0 d6.snd.fst)).length ≤ (List.map (mkV false [Lf.fs]) (crashF d6.snd.snd.snd.snd.snd d6.fst.snd 0 d6.snd.fst)).length)) (some { pan := false, res := AV.agg [AV.slc false (List.take (List.map (mkV false [Lf.fs]) (crashF d6.snd.snd.snd.snd.snd d6.fst.snd 0 d6.snd.fst)).length (List.drop 0 (List.map (mkV false [Lf.fs]) (crashF d6.snd.snd.snd.snd.snd d6.fst.snd 0 d6.snd.fst)))), AV.slc true [], AV.int IntKind.i64 0, AV.bool false], out := [], new := [] }) none) (bK (decide (0 + (List.map (mkV false [Lf.fs]) (crashF d6.snd.snd.snd.snd.snd d6.fst.snd 0 d6.snd.fst)).length ≤ (List.map (mkV false [Lf.fs]) (crashF d6.snd.snd.snd.snd.snd d6.fst.snd 0 d6.snd.fst)).length)) (some { pan := false, res := AV.agg [AV.slc false (List.take (List.map (mkV false [Lf.fs]) (crashF d6.snd.snd.snd.snd.snd d6.fst.snd 0 d6.snd.fst)).length (List.drop 0 (List.map (mkV false [Lf.fs]) (crashF d6.snd.snd.snd.snd.snd d6.fst.snd 0 d6.snd.fst)))), AV.slc true [], AV.int IntKind.i64 0, AV.bool false], out := [], new := [] }) none)))
theorem cru_w (d_Last_x : Bool) (d_Last : List (List UInt8)) (d_Wait_x : Bool) (d_Wait : List Put_T) (d_Arm : Int) (d_Down : Bool) (keep_x : Bool) (keep : List Int) : unitQ Try.prog cfg PK2 crP false 12 (groupA cru_sh (Tu.mk cru_fs ((d_Last_x, d_Last), (d_Wait_x, d_Wait), d_Arm, d_Down, (keep_x, keep)))) [] = cru_r d_Last_x d_Last d_Wait_x d_Wait d_Arm d_Down keep_x keep := by kernel_rfl

end Go.Proofs.Ytlomiepgghlhbaa
