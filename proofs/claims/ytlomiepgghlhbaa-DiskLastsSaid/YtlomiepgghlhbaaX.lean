/- A part of the proof: contracts of functions. -/
import Derived.Test.YtlomiepgghlhbaaW
import Derived.Test.YtlomiepgghlhbaaAbAny

set_option linter.unusedVariables false
set_option linter.unusedSimpArgs false
set_option maxRecDepth 100000
namespace Go.Proofs.Ytlomiepgghlhbaa
open Go Go.Ab
set_option maxHeartbeats 8000000
theorem oK_lpf {R D : Type} {hd : D → St} {pre : D → Prop} {out : D → Alt (Ex × St)} (hinj : ∀ d d', hd d = hd d' → d = d') (d : D) (hp : pre d) {st : St} (e : st = hd d) {k : D → Option R} {Q : Option R → Prop} (hz : Q (k d)) : Q (oK ((LP.of hd pre out).dec st) k) := by
  rw [e]; exact oK_lpq hinj d hp hz
theorem drl : (loopsOf 0 (codeOf Try.prog 6)).map (·.1) = [0, 2, 4] := by kernel_rfl
theorem dro : OneLoops Try.prog 6 := by unfold OneLoops; rw [drl]; decide
theorem dra : At 0 (codeOf Try.prog 6) 2 (.loop (bodyAt Try.prog 6 2)) := at_body dro (by rw [drl]; decide)
def drEnd : Ex × St := (.exit 2, { fr := [], bs := [], df := [] })
theorem dr_run (x : Bool) (l : List Row3) (hl : l.length ≤ 25) (hr : ∀ r ∈ l, (0 : Int) ≤ r.2.1) : ∀ (j i : Nat), i + j = l.length → ∀ (dx : Bool) (L : List (List UInt8)) (wx : Bool) (W : List Put_T) (s0 s1 s2 s3 : List UInt8), drI L W s0 s1 s2 s3 i → ∀ (m : Nat), j < m → Runs' Try.prog cfg B6 6 2 m (drh x l dx L wx W s0 s1 s2 s3 i) drEnd
  | 0, i, hi, dx, L, wx, W, s0, s1, s2, s3, h, m + 1, hm => by
    refine Runs'.done (lp := LP0) LPok.none dra ((dr_s_w x l dx L wx W s0 s1 s2 s3 i).trans ?_)
    unfold dr_s_r
    rw [bK_neg (by simp; omega)]
    rfl
  | j + 1, i, hi, dx, L, wx, W, s0, s1, s2, s3, h, m + 1, hm => by
    obtain ⟨y, h1, h2⟩ := dr_step x l dx L wx W s0 s1 s2 s3 i (by omega) hl h hr
    exact Runs'.step (lp := LP0) LPok.none dra ((dr_s_w x l dx L wx W s0 s1 s2 s3 i).trans h2) (dr_run x l hl hr j (i + 1) (by omega) _ _ _ _ _ _ _ _ h1 m (by omega))
abbrev DrD : Type := (Bool × List Row3) × (Bool × List (List UInt8)) × (Bool × List Put_T) × List UInt8 × List UInt8 × List UInt8 × List UInt8
def drH (d : DrD) : St := drh d.1.1 d.1.2 d.2.1.1 d.2.1.2 d.2.2.1.1 d.2.2.1.2 d.2.2.2.1 d.2.2.2.2.1 d.2.2.2.2.2.1 d.2.2.2.2.2.2 0
/-- A disk as it was made, and what stands in it. -/
def drPre (d : DrD) : Prop := d.1.2.length ≤ 25 ∧ (∀ r ∈ d.1.2, (0 : Int) ≤ r.2.1) ∧ drI d.2.1.2 d.2.2.1.2 d.2.2.2.1 d.2.2.2.2.1 d.2.2.2.2.2.1 d.2.2.2.2.2.2 0
noncomputable def drL : LP := LP.of drH drPre fun _ => .leaf drEnd
noncomputable def drP : LPs := LPs.add LP0 6 2 drL
theorem drP_ok : LPok Try.prog cfg B6 drP 6 := LPok.addH LPok.none dro (by
  rintro ⟨⟨x, l⟩, ⟨dx, L⟩, ⟨wx, W⟩, s0, s1, s2, s3⟩ ⟨h1, h2, h3⟩
  exact dr_run x l h1 h2 l.length 0 (by omega) dx L wx W s0 s1 s2 s3 h3 rounds (by have : l.length ≤ 25 := h1; simp only [rounds]; omega))
theorem drH_inj (d d' : DrD) (h : drH d = drH d') : d = d' := by
  obtain ⟨⟨x, l⟩, ⟨dx, L⟩, ⟨wx, W⟩, s0, s1, s2, s3⟩ := d
  obtain ⟨⟨x', l'⟩, ⟨dx', L'⟩, ⟨wx', W'⟩, s0', s1', s2', s3'⟩ := d'
  simp only [drH, drh, boxB, St.mk.injEq, List.cons.injEq, Prod.mk.injEq, AV.slc.injEq, AV.str.injEq, Blk.mk.injEq, and_true, true_and] at h
  obtain ⟨⟨h1, h2⟩, ⟨⟨h3, h4⟩, h5, h6⟩, h7, h8, h9, h10⟩ := h
  rw [h1, map_inj (fs := Row3_fs) rfl h2, h3, map_inj (agg := false) (fs := [.fs]) rfl h4, h5, map_inj (fs := Put_tfs) rfl h6, h7, h8, h9, h10]
abbrev diskReads_id : Nat := 6
abbrev diskReads_sh : Shp := [none]
abbrev diskReads_fs : List Lf := [.fl true [.fi .u8, .fi .u8, .fi .u8]]
abbrev diskReads_rsh : Shp := [none]
abbrev diskReads_rfs : List Lf := [.fb]
noncomputable def diskReads_r (l_x : Bool) (l : List (Int × Int × Int)) : Option Ret :=
  oK (begunS.dec [] []) fun (d0 : PUnit) =>
  bK (decide (25 < (↑(List.map (mkV true [Lf.fi IntKind.u8, Lf.fi IntKind.u8, Lf.fi IntKind.u8]) l).length : Int))) (some { pan := false, res := AV.bool true, out := [], new := [] })
    (oK (newS.dec [AV.int IntKind.i64 4] []) fun (d1 : Int) =>
      oK
        (drL.dec
          { fr := [(0, AV.slc l_x (List.map (mkV true [Lf.fi IntKind.u8, Lf.fi IntKind.u8, Lf.fi IntKind.u8]) l)), (3, AV.ptr 48 0 0 0), (4, AV.ptr 64 0 0 0), (6, AV.int IntKind.i64 0)],
            bs :=
              [(48, { v := 0, k := BK.box, fz := false, sz := 0, es := [AV.slc (newQ d1).fst.fst (List.map (mkV false [Lf.fs]) (newQ d1).fst.snd), AV.slc (newQ d1).snd.fst.fst (List.map (mkV true Put_tfs) (newQ d1).snd.fst.snd), AV.int IntKind.i64 (newQ d1).snd.snd.fst, AV.bool (newQ d1).snd.snd.snd] }),
                (64,
                  { v := 0, k := BK.box, fz := false, sz := 0,
                    es :=
                      [AV.str [UInt8.ofNat 0, UInt8.ofNat 0, UInt8.ofNat 0, UInt8.ofNat 0, UInt8.ofNat 0, UInt8.ofNat 0, UInt8.ofNat 0, UInt8.ofNat 0, UInt8.ofNat 0, UInt8.ofNat 0, UInt8.ofNat 0, UInt8.ofNat 0, UInt8.ofNat 0, UInt8.ofNat 0, UInt8.ofNat 0, UInt8.ofNat 0, UInt8.ofNat 0, UInt8.ofNat 0, UInt8.ofNat 0, UInt8.ofNat 0, UInt8.ofNat 0, UInt8.ofNat 0, UInt8.ofNat 0, UInt8.ofNat 0, UInt8.ofNat 0, UInt8.ofNat 0, UInt8.ofNat 0, UInt8.ofNat 0, UInt8.ofNat 0, UInt8.ofNat 0, UInt8.ofNat 0, UInt8.ofNat 0], AV.str [UInt8.ofNat 0, UInt8.ofNat 0, UInt8.ofNat 0, UInt8.ofNat 0, UInt8.ofNat 0, UInt8.ofNat 0, UInt8.ofNat 0, UInt8.ofNat 0, UInt8.ofNat 0, UInt8.ofNat 0, UInt8.ofNat 0, UInt8.ofNat 0, UInt8.ofNat 0, UInt8.ofNat 0, UInt8.ofNat 0, UInt8.ofNat 0, UInt8.ofNat 0, UInt8.ofNat 0, UInt8.ofNat 0, UInt8.ofNat 0, UInt8.ofNat 0, UInt8.ofNat 0, UInt8.ofNat 0, UInt8.ofNat 0, UInt8.ofNat 0, UInt8.ofNat 0, UInt8.ofNat 0, UInt8.ofNat 0, UInt8.ofNat 0, UInt8.ofNat 0, UInt8.ofNat 0, UInt8.ofNat 0], AV.str [UInt8.ofNat 0, UInt8.ofNat 0, UInt8.ofNat 0, UInt8.ofNat 0, UInt8.ofNat 0, UInt8.ofNat 0, UInt8.ofNat 0, UInt8.ofNat 0, UInt8.ofNat 0, UInt8.ofNat 0, UInt8.ofNat 0, UInt8.ofNat 0, UInt8.ofNat 0, UInt8.ofNat 0, UInt8.ofNat 0, UInt8.ofNat 0, UInt8.ofNat 0, UInt8.ofNat 0, UInt8.ofNat 0, UInt8.ofNat 0, UInt8.ofNat 0, UInt8.ofNat 0, UInt8.ofNat 0, UInt8.ofNat 0, UInt8.ofNat 0, UInt8.ofNat 0, UInt8.ofNat 0, UInt8.ofNat 0, UInt8.ofNat 0, UInt8.ofNat 0, UInt8.ofNat 0, UInt8.ofNat 0],
                        AV.str [UInt8.ofNat 0, UInt8.ofNat 0, UInt8.ofNat 0, UInt8.ofNat 0, UInt8.ofNat 0, UInt8.ofNat 0, UInt8.ofNat 0, UInt8.ofNat 0, UInt8.ofNat 0, UInt8.ofNat 0, UInt8.ofNat 0, UInt8.ofNat 0, UInt8.ofNat 0, UInt8.ofNat 0, UInt8.ofNat 0, UInt8.ofNat 0, UInt8.ofNat 0, UInt8.ofNat 0, UInt8.ofNat 0, UInt8.ofNat 0, UInt8.ofNat 0, UInt8.ofNat 0, UInt8.ofNat 0, UInt8.ofNat 0, UInt8.ofNat 0, UInt8.ofNat 0, UInt8.ofNat 0, UInt8.ofNat 0, UInt8.ofNat 0, UInt8.ofNat 0, UInt8.ofNat 0, UInt8.ofNat 0]] }),
                (352, { v := 0, k := BK.row, fz := false, sz := 1, es := [AV.int IntKind.u8 0, AV.int IntKind.u8 0, AV.int IntKind.u8 0, AV.int IntKind.u8 0, AV.int IntKind.u8 0, AV.int IntKind.u8 0, AV.int IntKind.u8 0, AV.int IntKind.u8 0, AV.int IntKind.u8 0, AV.int IntKind.u8 0, AV.int IntKind.u8 0, AV.int IntKind.u8 0, AV.int IntKind.u8 0, AV.int IntKind.u8 0, AV.int IntKind.u8 0, AV.int IntKind.u8 0, AV.int IntKind.u8 0, AV.int IntKind.u8 0, AV.int IntKind.u8 0, AV.int IntKind.u8 0, AV.int IntKind.u8 0, AV.int IntKind.u8 0, AV.int IntKind.u8 0, AV.int IntKind.u8 0, AV.int IntKind.u8 0, AV.int IntKind.u8 0, AV.int IntKind.u8 0, AV.int IntKind.u8 0, AV.int IntKind.u8 0, AV.int IntKind.u8 0, AV.int IntKind.u8 0, AV.int IntKind.u8 0] })],
            df := [] })
        fun (d2 : (Bool × List (Int × Int × Int)) × (Bool × List (List UInt8)) × (Bool × List (Int × List UInt8)) × List UInt8 × List UInt8 × List UInt8 × List UInt8) => some { pan := false, res := AV.bool true, out := [], new := [] })
theorem diskReads_w (l_x : Bool) (l : List (Int × Int × Int)) : unitQ Try.prog cfg B6 drP true 6 (groupA diskReads_sh (Tu.mk diskReads_fs (l_x, l))) [] = diskReads_r l_x l := by kernel_rfl

theorem diskReads_yes (l_x : Bool) (l : List (Int × Int × Int)) (h : Tu.wf diskReads_fs (l_x, l)) : Yes (diskReads_r l_x l) := by
  unfold diskReads_r
  have hl : ∀ r ∈ l, Tu.wf Row3_fs r := h.2
  refine oK_fsq (Q := Yes) begunS () trivial ?_
  refine bK_iq (Q := Yes) (fun _ => yes_leaf) (fun c1 => ?_)
  rw [List.length_map] at c1
  refine oK_fsq (Q := Yes) newS (4 : Int) (.inl rfl) ?_
  have hz : drI (newL 4) [] zs32 zs32 zs32 zs32 0 := ⟨rfl, Nat.le_refl _, (fun s hs => by rw [List.eq_of_mem_replicate hs]; rfl), (fun _ hp => by cases hp), rfl, rfl, rfl, rfl⟩
  exact oK_lpf (Q := Yes) drH_inj ((l_x, l), (false, newL 4), (true, []), zs32, zs32, zs32, zs32) ⟨by show l.length ≤ 25; omega, fun r hr => (hl r hr).2.1.1, hz⟩ rfl yes_leaf

end Go.Proofs.Ytlomiepgghlhbaa
