/- A part of the proof: contracts of functions. -/
import Derived.Test.YtmjgiplgghmapaaE
import Derived.Test.YtmjgiplgghmapaaAbAny

set_option linter.unusedVariables false
set_option linter.unusedSimpArgs false
set_option maxRecDepth 100000
namespace Go.Proofs.Ytmjgiplgghmapaa
open Go Go.Ab
set_option maxHeartbeats 8000000
theorem putL_len (b : List Int) (v n : Int) : (putL b v n).length ≤ b.length + 8 := by
  unfold putL
  split
  · next h =>
    have : ∀ k : Nat, (bytesV v k).length = k := fun k => by induction k with
      | zero => rfl
      | succ k ih => simp only [bytesV, List.length_cons, ih]
    rw [List.length_append, this]
    omega
  · omega
/-- Bytes with numbers behind them. -/
def pgF (n : Int) (d : Bool × List Int) (g : List Int) : Bool × List Int := g.foldl (fun e v => putF (e, v, n)) d
theorem gl27 : (loopsOf 0 (codeOf Try.prog 27)).map (·.1) = [1, 3] := by kernel_rfl
theorem go27 : OneLoops Try.prog 27 := by unfold OneLoops; rw [gl27]; decide
def pg1h (bx : Bool) (b : List Int) (gx : Bool) (g : List Int) (i : Int) : St := { fr := [(3, .slc bx (b.map (mkV false [.fi .u8]))), (20, .slc gx (g.map (mkV false [.fi .i64]))), (21, .int .i64 ((g.map (mkV false [.fi .i64])).length : Int)), (22, .int .i64 i)], bs := [], df := [] }
noncomputable def pg1_s (bx : Bool) (b : List Int) (gx : Bool) (g : List Int) (i : Int) : Option (St ⊕ (Ex × St)) := stepK Try.prog cfg PK9 LP0 27 1 (pg1h bx b gx g i)
noncomputable def pg1_s_r (bx : Bool) (b : List Int) (gx : Bool) (g : List Int) (i : Int) : Option (St ⊕ Ex × St) :=
  bK (decide (i < (↑(List.map (mkV false [Lf.fi IntKind.i64]) g).length : Int))) (oK (elemAt false [Lf.fi IntKind.i64] (List.map (mkV false [Lf.fi IntKind.i64]) g) i) fun (d0 : Int) => oK (putBS.dec [AV.slc bx (List.map (mkV false [Lf.fi IntKind.u8]) b), AV.int IntKind.i64 d0, AV.int IntKind.i64 2] []) fun (d1 : (Bool × List Int) × Int × Int) => some (Sum.inl { fr := [(3, AV.slc (putF d1).fst (List.map (mkV false [Lf.fi IntKind.u8]) (putF d1).snd)), (20, AV.slc gx (List.map (mkV false [Lf.fi IntKind.i64]) g)), (21, AV.int IntKind.i64 (↑(List.map (mkV false [Lf.fi IntKind.i64]) g).length : Int)), (22, AV.int IntKind.i64 (IntKind.i64.wrap (i + 1)))], bs := [], df := [] })) (some (Sum.inr (Ex.exit 1, { fr := [(3, AV.slc bx (List.map (mkV false [Lf.fi IntKind.u8]) b))], bs := [], df := [] })))
theorem pg1_s_w (bx : Bool) (b : List Int) (gx : Bool) (g : List Int) (i : Int) : pg1_s bx b gx g i = pg1_s_r bx b gx g i := by kernel_rfl

def pg1x (d : Bool × List Int) : St := { fr := [(3, .slc d.1 (d.2.map (mkV false [.fi .u8])))], bs := [], df := [] }
theorem ga271 : At 0 (codeOf Try.prog 27) 1 (.loop (bodyAt Try.prog 27 1)) := at_body go27 (by rw [gl27]; decide)
theorem pg1_run (gx : Bool) (g : List Int) (hg : g.length ≤ 1000) : ∀ (j i : Nat) (d : Bool × List Int), i + j = g.length → d.2.length + 8 * j ≤ 10000 → ∀ (fu : Nat), j < fu → Runs' Try.prog cfg PK9 27 1 fu (pg1h d.1 d.2 gx g i) (.exit 1, pg1x (pgF 2 d (g.drop i)))
  | 0, i, d, hi, hl, fu + 1, hf => by
    rw [List.drop_of_length_le (by omega)]
    refine Runs'.done (lp := LP0) LPok.none ga271 ((pg1_s_w d.1 d.2 gx g i).trans ?_)
    unfold pg1_s_r
    exact bK_neg (by simp; omega)
  | j + 1, i, d, hi, hl, fu + 1, hf => by
    have h1 : i < g.length := by omega
    have ei : IntKind.i64.wrap ((i : Int) + 1) = ((i + 1 : Nat) : Int) := by rw [w64 (by omega) (by omega)]; omega
    have e2 : g.getD (i : Int).toNat (0 : Int) = g[i] := by rw [Int.toNat_natCast, getD_at h1]
    have hp : (putF (d, g[i], 2)).2.length ≤ d.2.length + 8 := putL_len d.2 g[i] 2
    have hr := pg1_run gx g hg j (i + 1) (putF (d, g[i], 2)) (by omega) (by omega) fu (by omega)
    have e3 : pgF 2 d (g.drop i) = pgF 2 (putF (d, g[i], 2)) (g.drop (i + 1)) := by
      rw [List.drop_eq_getElem_cons h1]; rfl
    rw [e3]
    refine Runs'.step (lp := LP0) LPok.none ga271 ((pg1_s_w d.1 d.2 gx g i).trans ?_) hr
    unfold pg1_s_r
    refine bK_tq (Q := fun z => z = _) (by simp; omega) ?_
    refine oK_atq (Q := fun z => z = _) (fs := [.fi .i64]) (agg := false) (0 : Int) (by omega) (by simpa using h1) ?_
    rw [e2, ei]
    exact oK_fsq (Q := fun z => z = _) putBS ((d.1, d.2), g[i], 2) (by show d.2.length ≤ 10000; omega) rfl
abbrev Pg1D : Type := (Bool × List Int) × (Bool × List Int)
def pg1Hd (d : Pg1D) : St := pg1h d.1.1 d.1.2 d.2.1 d.2.2 0
theorem pg1Hd_inj (d d' : Pg1D) (h : pg1Hd d = pg1Hd d') : d = d' := by
  obtain ⟨⟨bx, b⟩, gx, g⟩ := d
  obtain ⟨⟨bx', b'⟩, gx', g'⟩ := d'
  simp only [pg1Hd, pg1h, St.mk.injEq, List.cons.injEq, Prod.mk.injEq, AV.slc.injEq, AV.int.injEq, and_true, true_and] at h
  obtain ⟨⟨h1, h2⟩, ⟨h3, h4⟩, _⟩ := h
  rw [h1, h3, map_inj (fs := [.fi .u8]) rfl h2, map_inj (fs := [.fi .i64]) rfl h4]
noncomputable def pg1L : LP := LP.of pg1Hd (fun d => d.2.2.length ≤ 1000 ∧ d.1.2.length ≤ 100) fun d => .leaf (.exit 1, pg1x (pgF 2 d.1 d.2.2))
noncomputable def pg1P : LPs := LPs.add LP0 27 1 pg1L
theorem pg1P_ok : LPok Try.prog cfg PK9 pg1P 27 := LPok.addH LPok.none go27 (by
  rintro ⟨⟨bx, b⟩, gx, g⟩ ⟨h1, h2⟩
  dsimp only at h1 h2
  exact pg1_run gx g h1 g.length 0 (bx, b) (by omega) (by show b.length + 8 * g.length ≤ 10000; omega) rounds (by simp only [rounds]; omega))
def pg3h (bx : Bool) (b : List Int) (gx : Bool) (g : List Int) (i : Int) : St := { fr := [(3, .slc bx (b.map (mkV false [.fi .u8]))), (93, .slc gx (g.map (mkV false [.fi .i64]))), (94, .int .i64 ((g.map (mkV false [.fi .i64])).length : Int)), (95, .int .i64 i)], bs := [], df := [] }
noncomputable def pg3_s (bx : Bool) (b : List Int) (gx : Bool) (g : List Int) (i : Int) : Option (St ⊕ (Ex × St)) := stepK Try.prog cfg PK9 LP0 27 3 (pg3h bx b gx g i)
noncomputable def pg3_s_r (bx : Bool) (b : List Int) (gx : Bool) (g : List Int) (i : Int) : Option (St ⊕ Ex × St) :=
  bK (decide (i < (↑(List.map (mkV false [Lf.fi IntKind.i64]) g).length : Int))) (oK (elemAt false [Lf.fi IntKind.i64] (List.map (mkV false [Lf.fi IntKind.i64]) g) i) fun (d0 : Int) => oK (putBS.dec [AV.slc bx (List.map (mkV false [Lf.fi IntKind.u8]) b), AV.int IntKind.i64 d0, AV.int IntKind.i64 1] []) fun (d1 : (Bool × List Int) × Int × Int) => some (Sum.inl { fr := [(3, AV.slc (putF d1).fst (List.map (mkV false [Lf.fi IntKind.u8]) (putF d1).snd)), (93, AV.slc gx (List.map (mkV false [Lf.fi IntKind.i64]) g)), (94, AV.int IntKind.i64 (↑(List.map (mkV false [Lf.fi IntKind.i64]) g).length : Int)), (95, AV.int IntKind.i64 (IntKind.i64.wrap (i + 1)))], bs := [], df := [] })) (some (Sum.inr (Ex.exit 3, { fr := [(3, AV.slc bx (List.map (mkV false [Lf.fi IntKind.u8]) b))], bs := [], df := [] })))
theorem pg3_s_w (bx : Bool) (b : List Int) (gx : Bool) (g : List Int) (i : Int) : pg3_s bx b gx g i = pg3_s_r bx b gx g i := by kernel_rfl

def pg3x (d : Bool × List Int) : St := { fr := [(3, .slc d.1 (d.2.map (mkV false [.fi .u8])))], bs := [], df := [] }
theorem ga273 : At 0 (codeOf Try.prog 27) 3 (.loop (bodyAt Try.prog 27 3)) := at_body go27 (by rw [gl27]; decide)
theorem pg3_run (gx : Bool) (g : List Int) (hg : g.length ≤ 1000) : ∀ (j i : Nat) (d : Bool × List Int), i + j = g.length → d.2.length + 8 * j ≤ 10000 → ∀ (fu : Nat), j < fu → Runs' Try.prog cfg PK9 27 3 fu (pg3h d.1 d.2 gx g i) (.exit 3, pg3x (pgF 1 d (g.drop i)))
  | 0, i, d, hi, hl, fu + 1, hf => by
    rw [List.drop_of_length_le (by omega)]
    refine Runs'.done (lp := LP0) LPok.none ga273 ((pg3_s_w d.1 d.2 gx g i).trans ?_)
    unfold pg3_s_r
    exact bK_neg (by simp; omega)
  | j + 1, i, d, hi, hl, fu + 1, hf => by
    have h1 : i < g.length := by omega
    have ei : IntKind.i64.wrap ((i : Int) + 1) = ((i + 1 : Nat) : Int) := by rw [w64 (by omega) (by omega)]; omega
    have e2 : g.getD (i : Int).toNat (0 : Int) = g[i] := by rw [Int.toNat_natCast, getD_at h1]
    have hp : (putF (d, g[i], 1)).2.length ≤ d.2.length + 8 := putL_len d.2 g[i] 1
    have hr := pg3_run gx g hg j (i + 1) (putF (d, g[i], 1)) (by omega) (by omega) fu (by omega)
    have e3 : pgF 1 d (g.drop i) = pgF 1 (putF (d, g[i], 1)) (g.drop (i + 1)) := by
      rw [List.drop_eq_getElem_cons h1]; rfl
    rw [e3]
    refine Runs'.step (lp := LP0) LPok.none ga273 ((pg3_s_w d.1 d.2 gx g i).trans ?_) hr
    unfold pg3_s_r
    refine bK_tq (Q := fun z => z = _) (by simp; omega) ?_
    refine oK_atq (Q := fun z => z = _) (fs := [.fi .i64]) (agg := false) (0 : Int) (by omega) (by simpa using h1) ?_
    rw [e2, ei]
    exact oK_fsq (Q := fun z => z = _) putBS ((d.1, d.2), g[i], 1) (by show d.2.length ≤ 10000; omega) rfl
abbrev Pg3D : Type := (Bool × List Int) × (Bool × List Int)
def pg3Hd (d : Pg3D) : St := pg3h d.1.1 d.1.2 d.2.1 d.2.2 0
theorem pg3Hd_inj (d d' : Pg3D) (h : pg3Hd d = pg3Hd d') : d = d' := by
  obtain ⟨⟨bx, b⟩, gx, g⟩ := d
  obtain ⟨⟨bx', b'⟩, gx', g'⟩ := d'
  simp only [pg3Hd, pg3h, St.mk.injEq, List.cons.injEq, Prod.mk.injEq, AV.slc.injEq, AV.int.injEq, and_true, true_and] at h
  obtain ⟨⟨h1, h2⟩, ⟨h3, h4⟩, _⟩ := h
  rw [h1, h3, map_inj (fs := [.fi .u8]) rfl h2, map_inj (fs := [.fi .i64]) rfl h4]
noncomputable def pg3L : LP := LP.of pg3Hd (fun d => d.2.2.length ≤ 1000 ∧ d.1.2.length ≤ 100) fun d => .leaf (.exit 3, pg3x (pgF 1 d.1 d.2.2))
noncomputable def pg3P : LPs := LPs.add pg1P 27 3 pg3L
theorem pg3P_ok : LPok Try.prog cfg PK9 pg3P 27 := LPok.addH pg1P_ok go27 (by
  rintro ⟨⟨bx, b⟩, gx, g⟩ ⟨h1, h2⟩
  dsimp only at h1 h2
  exact pg3_run gx g h1 g.length 0 (bx, b) (by omega) (by show b.length + 8 * g.length ≤ 10000; omega) rounds (by simp only [rounds]; omega))
abbrev pt_id : Nat := 27
abbrev pt_sh : Shp := [some 9]
abbrev pt_fs : List Lf := [.fi .i64, .fi .i64, .fi .i64, .fi .i64, .fi .i64, .fi .i64, .fi .i64, .fs, .fl false [.fi .i64]]
abbrev pt_rsh : Shp := [none]
abbrev pt_rfs : List Lf := [.fl false [.fi .u8]]
noncomputable def pt_r (s_Kind : Int) (s_R : Int) (s_By : Int) (s_File : Int) (s_Off : Int) (s_I : Int) (s_To : Int) (s_Text : List UInt8) (s_Gains_x : Bool) (s_Gains : List Int) : Option Ret :=
  oK (putBS.dec [AV.slc true [], AV.int IntKind.i64 s_Kind, AV.int IntKind.i64 1] []) fun (d0 : (Bool × List Int) × Int × Int) =>
  bK (decide (s_Kind = 1)) (oK (putBS.dec [AV.slc (putF d0).fst (List.map (mkV false [Lf.fi IntKind.u8]) (putF d0).snd), AV.int IntKind.i64 s_By, AV.int IntKind.i64 2] []) fun (d1 : (Bool × List Int) × Int × Int) => oK (pg1L.dec { fr := [(3, AV.slc (putF d1).fst (List.map (mkV false [Lf.fi IntKind.u8]) (putF d1).snd)), (20, AV.slc s_Gains_x (List.map (mkV false [Lf.fi IntKind.i64]) s_Gains)), (21, AV.int IntKind.i64 (↑(List.map (mkV false [Lf.fi IntKind.i64]) s_Gains).length : Int)), (22, AV.int IntKind.i64 0)], bs := [], df := [] }) fun (d2 : (Bool × List Int) × Bool × List Int) => some { pan := false, res := AV.slc (pgF 2 d2.fst d2.snd.snd).fst (List.map (mkV false [Lf.fi IntKind.u8]) (pgF 2 d2.fst d2.snd.snd).snd), out := [], new := [] })
    (bK (decide (s_Kind = 2)) (oK (putBS.dec [AV.slc (putF d0).fst (List.map (mkV false [Lf.fi IntKind.u8]) (putF d0).snd), AV.int IntKind.i64 s_R, AV.int IntKind.i64 1] []) fun (d3 : (Bool × List Int) × Int × Int) => some { pan := false, res := AV.slc (putF d3).fst (List.map (mkV false [Lf.fi IntKind.u8]) (putF d3).snd), out := [], new := [] })
      (bK (decide (s_Kind = 3)) (oK (putBS.dec [AV.slc (putF d0).fst (List.map (mkV false [Lf.fi IntKind.u8]) (putF d0).snd), AV.int IntKind.i64 s_R, AV.int IntKind.i64 1] []) fun (d4 : (Bool × List Int) × Int × Int) => oK (textBS.dec [AV.slc (putF d4).fst (List.map (mkV false [Lf.fi IntKind.u8]) (putF d4).snd), AV.str s_Text] []) fun (d5 : (Bool × List Int) × List UInt8) => some { pan := false, res := AV.slc (textF d5).fst (List.map (mkV false [Lf.fi IntKind.u8]) (textF d5).snd), out := [], new := [] })
        (bK (decide (s_Kind = 4)) (oK (putBS.dec [AV.slc (putF d0).fst (List.map (mkV false [Lf.fi IntKind.u8]) (putF d0).snd), AV.int IntKind.i64 s_R, AV.int IntKind.i64 1] []) fun (d6 : (Bool × List Int) × Int × Int) => oK (putBS.dec [AV.slc (putF d6).fst (List.map (mkV false [Lf.fi IntKind.u8]) (putF d6).snd), AV.int IntKind.i64 s_File, AV.int IntKind.i64 1] []) fun (d7 : (Bool × List Int) × Int × Int) => some { pan := false, res := AV.slc (putF d7).fst (List.map (mkV false [Lf.fi IntKind.u8]) (putF d7).snd), out := [], new := [] })
          (bK (decide (s_Kind = 6)) (oK (putBS.dec [AV.slc (putF d0).fst (List.map (mkV false [Lf.fi IntKind.u8]) (putF d0).snd), AV.int IntKind.i64 s_R, AV.int IntKind.i64 1] []) fun (d8 : (Bool × List Int) × Int × Int) => oK (putBS.dec [AV.slc (putF d8).fst (List.map (mkV false [Lf.fi IntKind.u8]) (putF d8).snd), AV.int IntKind.i64 s_File, AV.int IntKind.i64 1] []) fun (d9 : (Bool × List Int) × Int × Int) => some { pan := false, res := AV.slc (putF d9).fst (List.map (mkV false [Lf.fi IntKind.u8]) (putF d9).snd), out := [], new := [] })
            (bK (decide (s_Kind = 7)) (oK (putBS.dec [AV.slc (putF d0).fst (List.map (mkV false [Lf.fi IntKind.u8]) (putF d0).snd), AV.int IntKind.i64 s_R, AV.int IntKind.i64 1] []) fun (d10 : (Bool × List Int) × Int × Int) => oK (putBS.dec [AV.slc (putF d10).fst (List.map (mkV false [Lf.fi IntKind.u8]) (putF d10).snd), AV.int IntKind.i64 s_File, AV.int IntKind.i64 1] []) fun (d11 : (Bool × List Int) × Int × Int) => some { pan := false, res := AV.slc (putF d11).fst (List.map (mkV false [Lf.fi IntKind.u8]) (putF d11).snd), out := [], new := [] })
              (bK (decide (s_Kind = 8)) (oK (putBS.dec [AV.slc (putF d0).fst (List.map (mkV false [Lf.fi IntKind.u8]) (putF d0).snd), AV.int IntKind.i64 s_R, AV.int IntKind.i64 1] []) fun (d12 : (Bool × List Int) × Int × Int) => oK (putBS.dec [AV.slc (putF d12).fst (List.map (mkV false [Lf.fi IntKind.u8]) (putF d12).snd), AV.int IntKind.i64 s_File, AV.int IntKind.i64 1] []) fun (d13 : (Bool × List Int) × Int × Int) => some { pan := false, res := AV.slc (putF d13).fst (List.map (mkV false [Lf.fi IntKind.u8]) (putF d13).snd), out := [], new := [] })
                (bK (decide (s_Kind = 5)) (oK (putBS.dec [AV.slc (putF d0).fst (List.map (mkV false [Lf.fi IntKind.u8]) (putF d0).snd), AV.int IntKind.i64 s_R, AV.int IntKind.i64 1] []) fun (d14 : (Bool × List Int) × Int × Int) => oK (putBS.dec [AV.slc (putF d14).fst (List.map (mkV false [Lf.fi IntKind.u8]) (putF d14).snd), AV.int IntKind.i64 s_File, AV.int IntKind.i64 1] []) fun (d15 : (Bool × List Int) × Int × Int) => oK (putBS.dec [AV.slc (putF d15).fst (List.map (mkV false [Lf.fi IntKind.u8]) (putF d15).snd), AV.int IntKind.i64 s_Off, AV.int IntKind.i64 1] []) fun (d16 : (Bool × List Int) × Int × Int) => oK (textBS.dec [AV.slc (putF d16).fst (List.map (mkV false [Lf.fi IntKind.u8]) (putF d16).snd), AV.str s_Text] []) fun (d17 : (Bool × List Int) × List UInt8) => some { pan := false, res := AV.slc (textF d17).fst (List.map (mkV false [Lf.fi IntKind.u8]) (textF d17).snd), out := [], new := [] })
                  (bK (decide (s_Kind = 12)) (oK (putBS.dec [AV.slc (putF d0).fst (List.map (mkV false [Lf.fi IntKind.u8]) (putF d0).snd), AV.int IntKind.i64 s_I, AV.int IntKind.i64 1] []) fun (d18 : (Bool × List Int) × Int × Int) => oK (putBS.dec [AV.slc (putF d18).fst (List.map (mkV false [Lf.fi IntKind.u8]) (putF d18).snd), AV.int IntKind.i64 s_To, AV.int IntKind.i64 2] []) fun (d19 : (Bool × List Int) × Int × Int) => some { pan := false, res := AV.slc (putF d19).fst (List.map (mkV false [Lf.fi IntKind.u8]) (putF d19).snd), out := [], new := [] })
                    (bK (decide (s_Kind = 14)) (oK (putBS.dec [AV.slc (putF d0).fst (List.map (mkV false [Lf.fi IntKind.u8]) (putF d0).snd), AV.int IntKind.i64 s_R, AV.int IntKind.i64 1] []) fun (d20 : (Bool × List Int) × Int × Int) => oK (putBS.dec [AV.slc (putF d20).fst (List.map (mkV false [Lf.fi IntKind.u8]) (putF d20).snd), AV.int IntKind.i64 (↑(List.map (mkV false [Lf.fi IntKind.i64]) s_Gains).length : Int), AV.int IntKind.i64 1] []) fun (d21 : (Bool × List Int) × Int × Int) => oK (pg3L.dec { fr := [(3, AV.slc (putF d21).fst (List.map (mkV false [Lf.fi IntKind.u8]) (putF d21).snd)), (93, AV.slc s_Gains_x (List.map (mkV false [Lf.fi IntKind.i64]) s_Gains)), (94, AV.int IntKind.i64 (↑(List.map (mkV false [Lf.fi IntKind.i64]) s_Gains).length : Int)), (95, AV.int IntKind.i64 0)], bs := [], df := [] }) fun (d22 : (Bool × List Int) × Bool × List Int) => some { pan := false, res := AV.slc (pgF 1 d22.fst d22.snd.snd).fst (List.map (mkV false [Lf.fi IntKind.u8]) (pgF 1 d22.fst d22.snd.snd).snd), out := [], new := [] }) (oK (putBS.dec [AV.slc (putF d0).fst (List.map (mkV false [Lf.fi IntKind.u8]) (putF d0).snd), AV.int IntKind.i64 s_I, AV.int IntKind.i64 1] []) fun (d23 : (Bool × List Int) × Int × Int) => some { pan := false, res := AV.slc (putF d23).fst (List.map (mkV false [Lf.fi IntKind.u8]) (putF d23).snd), out := [], new := [] }))))))))))
theorem pt_w (s_Kind : Int) (s_R : Int) (s_By : Int) (s_File : Int) (s_Off : Int) (s_I : Int) (s_To : Int) (s_Text : List UInt8) (s_Gains_x : Bool) (s_Gains : List Int) : unitQ Try.prog cfg PK9 pg3P false 27 (groupA pt_sh (Tu.mk pt_fs (s_Kind, s_R, s_By, s_File, s_Off, s_I, s_To, s_Text, (s_Gains_x, s_Gains)))) [] = pt_r s_Kind s_R s_By s_File s_Off s_I s_To s_Text s_Gains_x s_Gains := by kernel_rfl

end Go.Proofs.Ytmjgiplgghmapaa
