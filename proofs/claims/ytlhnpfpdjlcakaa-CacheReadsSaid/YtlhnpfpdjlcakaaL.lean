/- A part of the proof: contracts of functions. -/
import Derived.Test.YtlhnpfpdjlcakaaP
import Derived.Test.YtlhnpfpdjlcakaaAbCl

set_option linter.unusedVariables false
set_option linter.unusedSimpArgs false
set_option maxRecDepth 100000
namespace Go.Proofs.Ytlhnpfpdjlcakaa
open Go Go.Ab
abbrev dOf (c : Cache_T) : List Write_T := c.2.2.2.2.1.2
theorem loops10 : (loopsOf 0 (codeOf Try.prog 10)).map (·.1) = [0] := by kernel_rfl
theorem one10 : OneLoops Try.prog 10 := by unfold OneLoops; rw [loops10]; decide
theorem at10 : At 0 (codeOf Try.prog 10) 0 (.loop (bodyAt Try.prog 10 0)) := at_body one10 (by rw [loops10]; decide)
def caEnd (b : Picks_T) (c : Cache_T) : St := { fr := [(0, .ptr 1000000 0 0 0), (2, .ptr 32 0 0 0), (3, .ptr 48 0 0 0)], bs := [(32, boxB (Tu.mk Cache_tfs (0, 0, 0, [], (true, []), 0, false, false))), (48, boxB (Tu.mk Cache_tfs c)), (1000000, boxB (Tu.mk Picks_tfs b))], df := [] }
theorem ca_run : ∀ (k : Nat) (b : Picks_T) (c : Cache_T), pkOk b → cOk c → k ≤ 1000 → ∀ m, k < m →
    ∃ y : Picks_T × Cache_T, pkOk y.1 ∧ cOk y.2 ∧ Runs' Try.prog cfg PK4 10 0 m (caHd b c k) (.exit 0, caEnd y.1 y.2)
  | 0, ((x, l), n), c, hb, hc, hk, m + 1, hm => by
    refine ⟨(((x, l), n), c), hb, hc, Runs'.done (lp := LP0) LPok.none at10 ((ca_s_w x l n c 0).trans ?_)⟩
    rfl
  | k + 1, ((x, l), n), c, hb, hc, hk, m + 1, hm => by
    have hs := bufF_spec (c, (writeF ((x, l), n)).2.1, (writeF ((x, l), n)).2.2) hc
    obtain ⟨y, h1, h2, h3⟩ := ca_run k (writeF ((x, l), n)).1 (bufF (c, (writeF ((x, l), n)).2.1, (writeF ((x, l), n)).2.2)).1 (writeF_ok hb) hs.1 (by omega) m (by omega)
    refine ⟨y, h1, h2, Runs'.step (lp := LP0) LPok.none at10 ((ca_s_w x l n c _).trans ?_) h3⟩
    unfold ca_s_r
    refine bK_tq (Q := fun z => z = _) (decide_eq_true (by omega)) ?_
    refine oK_msq (Q := fun z => z = _) writeS ((x, l), n) () hb ?_
    refine oK_fsq (Q := fun z => z = _) bufRS (c.1, c.2.1, c.2.2.1, c.2.2.2.1, c.2.2.2.2.1, c.2.2.2.2.2.1, c.2.2.2.2.2.2.1, c.2.2.2.2.2.2.2, (writeF ((x, l), n)).2.1, (writeF ((x, l), n)).2.2) hc ?_
    rw [w64 (n := ((k + 1 : Nat) : Int) - 1) (by omega) (by omega), show ((k + 1 : Nat) : Int) - 1 = (k : Int) by omega]
    rfl
abbrev CaD : Type := Picks_T × Cache_T × Int
def caH (d : CaD) : St := caHd d.1 d.2.1 d.2.2
def caP (d : CaD) : Prop := pkOk d.1 ∧ cOk d.2.1 ∧ 0 ≤ d.2.2 ∧ d.2.2 ≤ 500
theorem ca_ex (d : CaD) (h : caP d) : ∃ y : Picks_T × Cache_T, pkOk y.1 ∧ cOk y.2 ∧ Runs' Try.prog cfg PK4 10 0 rounds (caH d) (.exit 0, caEnd y.1 y.2) := by
  obtain ⟨b, c, i⟩ := d
  obtain ⟨h1, h2, h3, h4⟩ := h
  simp only at h1 h2 h3 h4
  obtain ⟨k, rfl⟩ := Int.eq_ofNat_of_zero_le h3
  exact ca_run k b c h1 h2 (by omega) rounds (by simp only [rounds]; omega)
/-- What is left of the numbers, what was made. -/
noncomputable def caR (d : CaD) : Picks_T × Cache_T := open Classical in if h : caP d then Classical.choose (ca_ex d h) else (d.1, d.2.1)
theorem caR_spec (d : CaD) (h : caP d) : pkOk (caR d).1 ∧ cOk (caR d).2 ∧ Runs' Try.prog cfg PK4 10 0 rounds (caH d) (.exit 0, caEnd (caR d).1 (caR d).2) := by
  unfold caR
  rw [dif_pos h]
  exact Classical.choose_spec (ca_ex d h)
noncomputable def caL : LP := LP.of (D := CaD) caH caP fun d => .leaf (.exit 0, caEnd (caR d).1 (caR d).2)
noncomputable def LPc : LPs := LPs.add LP0 10 0 caL
theorem LPc_ok : LPok Try.prog cfg PK4 LPc 10 := LPok.addH LPok.none one10 fun d h => (caR_spec d h).2.2
theorem caH_inj (d d' : CaD) (h : caH d = caH d') : d = d' := by
  obtain ⟨b, c, i⟩ := d
  obtain ⟨b', c', i'⟩ := d'
  simp only [caH, caHd, boxB, St.mk.injEq, List.cons.injEq, Prod.mk.injEq, Blk.mk.injEq, AV.int.injEq, and_true, true_and] at h
  obtain ⟨h1, h2, h3⟩ := h
  rw [h1, mk_inj (fs := Cache_tfs) rfl h2, mk_inj (fs := Picks_tfs) rfl h3]
abbrev cacheP_id : Nat := 10
abbrev cacheP_sh : Shp := []
abbrev cacheP_fs : List Lf := []
abbrev cacheP_bs : List Lf := [.fl false [.fi .u8], .fi .i64]
abbrev cacheP_rsh : Shp := [some 8]
abbrev cacheP_rfs : List Lf := [.fi .i64, .fi .i64, .fi .i64, .fs, .fl true Write_tfs, .fi .i64, .fb, .fb]
noncomputable def cacheP_r (p_l_x : Bool) (p_l : List Int) (p_n : Int) : Option Ret :=
  oK (numS.dec [AV.ptr 1000000 0 0 0, AV.int IntKind.i64 4] [{ v := 0, k := BK.box, fz := false, sz := 0, es := [AV.slc p_l_x (List.map (mkV false [Lf.fi IntKind.u8]) p_l), AV.int IntKind.i64 p_n] }]) fun (d0 : ((Bool × List Int) × Int) × Int) =>
  bK (decide (0 < (numF d0.fst d0.snd).snd))
    (oK (numS.dec [AV.ptr 1000000 0 0 0, AV.int IntKind.i64 2] [{ v := 0, k := BK.box, fz := false, sz := 0, es := [AV.slc (numF d0.fst d0.snd).fst.fst.fst (List.map (mkV false [Lf.fi IntKind.u8]) (numF d0.fst d0.snd).fst.fst.snd), AV.int IntKind.i64 (numF d0.fst d0.snd).fst.snd] }]) fun (d1 : ((Bool × List Int) × Int) × Int) =>
      oK (numS.dec [AV.ptr 1000000 0 0 0, AV.int IntKind.i64 100] [{ v := 0, k := BK.box, fz := false, sz := 0, es := [AV.slc (numF d1.fst d1.snd).fst.fst.fst (List.map (mkV false [Lf.fi IntKind.u8]) (numF d1.fst d1.snd).fst.fst.snd), AV.int IntKind.i64 (numF d1.fst d1.snd).fst.snd] }]) fun (d2 : ((Bool × List Int) × Int) × Int) =>
        oK (numS.dec [AV.ptr 1000000 0 0 0, AV.int IntKind.i64 9] [{ v := 0, k := BK.box, fz := false, sz := 0, es := [AV.slc (numF d2.fst d2.snd).fst.fst.fst (List.map (mkV false [Lf.fi IntKind.u8]) (numF d2.fst d2.snd).fst.fst.snd), AV.int IntKind.i64 (numF d2.fst d2.snd).fst.snd] }]) fun (d3 : ((Bool × List Int) × Int) × Int) =>
          oK (numS.dec [AV.ptr 1000000 0 0 0, AV.int IntKind.i64 3] [{ v := 0, k := BK.box, fz := false, sz := 0, es := [AV.slc (numF d3.fst d3.snd).fst.fst.fst (List.map (mkV false [Lf.fi IntKind.u8]) (numF d3.fst d3.snd).fst.fst.snd), AV.int IntKind.i64 (numF d3.fst d3.snd).fst.snd] }]) fun (d4 : ((Bool × List Int) × Int) × Int) =>
            bK (decide (0 ≤ (numF d4.fst d4.snd).snd ∧ (numF d4.fst d4.snd).snd < 3))
              (oK (ldRow [Lf.fs] [AV.str [], AV.str [98, 111, 100, 121], AV.str [108, 111, 110, 103, 101, 114, 32, 98, 111, 100, 121]] (0 + Int.toNat (numF d4.fst d4.snd).snd) 0) fun (d5 : List UInt8) =>
                oK (letRS.dec [AV.agg [AV.int IntKind.i64 0, AV.int IntKind.i64 0, AV.int IntKind.i64 0, AV.str [], AV.slc true [], AV.int IntKind.i64 0, AV.bool false, AV.bool false], AV.int IntKind.i64 (IntKind.i64.wrap (1 + (numF d1.fst d1.snd).snd)), AV.int IntKind.i64 (numF d2.fst d2.snd).snd, AV.int IntKind.i64 (IntKind.i64.wrap (1 + (numF d3.fst d3.snd).snd)), AV.str d5] []) fun (d6 : Int × Int × Int × List UInt8 × (Bool × List (Int × List UInt8)) × Int × Bool × Bool × Int × Int × Int × List UInt8) =>
                  oK (numS.dec [AV.ptr 1000000 0 0 0, AV.int IntKind.i64 7] [{ v := 0, k := BK.box, fz := false, sz := 0, es := [AV.slc (numF d4.fst d4.snd).fst.fst.fst (List.map (mkV false [Lf.fi IntKind.u8]) (numF d4.fst d4.snd).fst.fst.snd), AV.int IntKind.i64 (numF d4.fst d4.snd).fst.snd] }]) fun (d7 : ((Bool × List Int) × Int) × Int) =>
                    oK (caL.dec { fr := [(0, AV.ptr 1000000 0 0 0), (2, AV.ptr 32 0 0 0), (3, AV.ptr 48 0 0 0), (4, AV.int IntKind.i64 (numF d7.fst d7.snd).snd)], bs := [(32, { v := 0, k := BK.box, fz := false, sz := 0, es := [AV.int IntKind.i64 0, AV.int IntKind.i64 0, AV.int IntKind.i64 0, AV.str [], AV.slc true [], AV.int IntKind.i64 0, AV.bool false, AV.bool false] }), (48, { v := 0, k := BK.box, fz := false, sz := 0, es := [AV.int IntKind.i64 d6.snd.snd.snd.snd.snd.snd.snd.snd.fst, AV.int IntKind.i64 d6.snd.snd.snd.snd.snd.snd.snd.snd.snd.fst, AV.int IntKind.i64 d6.snd.snd.snd.snd.snd.snd.snd.snd.snd.snd.fst, AV.str d6.snd.snd.snd.snd.snd.snd.snd.snd.snd.snd.snd, AV.slc d6.snd.snd.snd.snd.fst.fst (List.map (mkV true Write_tfs) d6.snd.snd.snd.snd.fst.snd), AV.int IntKind.i64 d6.snd.snd.snd.snd.snd.fst, AV.bool false, AV.bool d6.snd.snd.snd.snd.snd.snd.snd.fst] }), (1000000, { v := 0, k := BK.box, fz := false, sz := 0, es := [AV.slc (numF d7.fst d7.snd).fst.fst.fst (List.map (mkV false [Lf.fi IntKind.u8]) (numF d7.fst d7.snd).fst.fst.snd), AV.int IntKind.i64 (numF d7.fst d7.snd).fst.snd] })], df := [] }) fun (d8 : ((Bool × List Int) × Int) × (Int × Int × Int × List UInt8 × (Bool × List (Int × List UInt8)) × Int × Bool × Bool) × Int) =>
                      oK (numS.dec [AV.ptr 1000000 0 0 0, AV.int IntKind.i64 (IntKind.i64.wrap ((↑(List.map (mkV true Write_tfs) (caR d8).snd.snd.snd.snd.snd.fst.snd).length : Int) + 1))] [{ v := 0, k := BK.box, fz := false, sz := 0, es := [AV.slc (caR d8).fst.fst.fst (List.map (mkV false [Lf.fi IntKind.u8]) (caR d8).fst.fst.snd), AV.int IntKind.i64 (caR d8).fst.snd] }]) fun (d9 : ((Bool × List Int) × Int) × Int) =>
                        oK (numS.dec [AV.ptr 1000000 0 0 0, AV.int IntKind.i64 3] [{ v := 0, k := BK.box, fz := false, sz := 0, es := [AV.slc (numF d9.fst d9.snd).fst.fst.fst (List.map (mkV false [Lf.fi IntKind.u8]) (numF d9.fst d9.snd).fst.fst.snd), AV.int IntKind.i64 (numF d9.fst d9.snd).fst.snd] }]) fun (d10 : ((Bool × List Int) × Int) × Int) => oK (numS.dec [AV.ptr 1000000 0 0 0, AV.int IntKind.i64 5] [{ v := 0, k := BK.box, fz := false, sz := 0, es := [AV.slc (numF d10.fst d10.snd).fst.fst.fst (List.map (mkV false [Lf.fi IntKind.u8]) (numF d10.fst d10.snd).fst.fst.snd), AV.int IntKind.i64 (numF d10.fst d10.snd).fst.snd] }]) fun (d11 : ((Bool × List Int) × Int) × Int) => some { pan := false, res := AV.agg [AV.int IntKind.i64 (caR d8).snd.fst, AV.int IntKind.i64 (caR d8).snd.snd.fst, AV.int IntKind.i64 (caR d8).snd.snd.snd.fst, AV.str (caR d8).snd.snd.snd.snd.fst, AV.slc (caR d8).snd.snd.snd.snd.snd.fst.fst (List.map (mkV true Write_tfs) (caR d8).snd.snd.snd.snd.snd.fst.snd), AV.int IntKind.i64 (numF d9.fst d9.snd).snd, AV.bool (decide ((numF d10.fst d10.snd).snd = 0)), AV.bool (decide ((numF d11.fst d11.snd).snd = 0))], out := [{ v := 0, k := BK.box, fz := false, sz := 0, es := [AV.slc (numF d11.fst d11.snd).fst.fst.fst (List.map (mkV false [Lf.fi IntKind.u8]) (numF d11.fst d11.snd).fst.fst.snd), AV.int IntKind.i64 (numF d11.fst d11.snd).fst.snd] }], new := [] })
              none)
    (oK (numS.dec [AV.ptr 1000000 0 0 0, AV.int IntKind.i64 7] [{ v := 0, k := BK.box, fz := false, sz := 0, es := [AV.slc (numF d0.fst d0.snd).fst.fst.fst (List.map (mkV false [Lf.fi IntKind.u8]) (numF d0.fst d0.snd).fst.fst.snd), AV.int IntKind.i64 (numF d0.fst d0.snd).fst.snd] }]) fun (d12 : ((Bool × List Int) × Int) × Int) =>
      oK (caL.dec { fr := [(0, AV.ptr 1000000 0 0 0), (2, AV.ptr 32 0 0 0), (3, AV.ptr 48 0 0 0), (4, AV.int IntKind.i64 (numF d12.fst d12.snd).snd)], bs := [(32, { v := 0, k := BK.box, fz := false, sz := 0, es := [AV.int IntKind.i64 0, AV.int IntKind.i64 0, AV.int IntKind.i64 0, AV.str [], AV.slc true [], AV.int IntKind.i64 0, AV.bool false, AV.bool false] }), (48, { v := 0, k := BK.box, fz := false, sz := 0, es := [AV.int IntKind.i64 0, AV.int IntKind.i64 0, AV.int IntKind.i64 0, AV.str [], AV.slc true [], AV.int IntKind.i64 0, AV.bool false, AV.bool false] }), (1000000, { v := 0, k := BK.box, fz := false, sz := 0, es := [AV.slc (numF d12.fst d12.snd).fst.fst.fst (List.map (mkV false [Lf.fi IntKind.u8]) (numF d12.fst d12.snd).fst.fst.snd), AV.int IntKind.i64 (numF d12.fst d12.snd).fst.snd] })], df := [] }) fun (d13 : ((Bool × List Int) × Int) × (Int × Int × Int × List UInt8 × (Bool × List (Int × List UInt8)) × Int × Bool × Bool) × Int) =>
        oK (numS.dec [AV.ptr 1000000 0 0 0, AV.int IntKind.i64 (IntKind.i64.wrap ((↑(List.map (mkV true Write_tfs) (caR d13).snd.snd.snd.snd.snd.fst.snd).length : Int) + 1))] [{ v := 0, k := BK.box, fz := false, sz := 0, es := [AV.slc (caR d13).fst.fst.fst (List.map (mkV false [Lf.fi IntKind.u8]) (caR d13).fst.fst.snd), AV.int IntKind.i64 (caR d13).fst.snd] }]) fun (d14 : ((Bool × List Int) × Int) × Int) =>
          oK (numS.dec [AV.ptr 1000000 0 0 0, AV.int IntKind.i64 3] [{ v := 0, k := BK.box, fz := false, sz := 0, es := [AV.slc (numF d14.fst d14.snd).fst.fst.fst (List.map (mkV false [Lf.fi IntKind.u8]) (numF d14.fst d14.snd).fst.fst.snd), AV.int IntKind.i64 (numF d14.fst d14.snd).fst.snd] }]) fun (d15 : ((Bool × List Int) × Int) × Int) => oK (numS.dec [AV.ptr 1000000 0 0 0, AV.int IntKind.i64 5] [{ v := 0, k := BK.box, fz := false, sz := 0, es := [AV.slc (numF d15.fst d15.snd).fst.fst.fst (List.map (mkV false [Lf.fi IntKind.u8]) (numF d15.fst d15.snd).fst.fst.snd), AV.int IntKind.i64 (numF d15.fst d15.snd).fst.snd] }]) fun (d16 : ((Bool × List Int) × Int) × Int) => some { pan := false, res := AV.agg [AV.int IntKind.i64 (caR d13).snd.fst, AV.int IntKind.i64 (caR d13).snd.snd.fst, AV.int IntKind.i64 (caR d13).snd.snd.snd.fst, AV.str (caR d13).snd.snd.snd.snd.fst, AV.slc (caR d13).snd.snd.snd.snd.snd.fst.fst (List.map (mkV true Write_tfs) (caR d13).snd.snd.snd.snd.snd.fst.snd), AV.int IntKind.i64 (numF d14.fst d14.snd).snd, AV.bool (decide ((numF d15.fst d15.snd).snd = 0)), AV.bool (decide ((numF d16.fst d16.snd).snd = 0))], out := [{ v := 0, k := BK.box, fz := false, sz := 0, es := [AV.slc (numF d16.fst d16.snd).fst.fst.fst (List.map (mkV false [Lf.fi IntKind.u8]) (numF d16.fst d16.snd).fst.fst.snd), AV.int IntKind.i64 (numF d16.fst d16.snd).fst.snd] }], new := [] })
theorem cacheP_w (p_l_x : Bool) (p_l : List Int) (p_n : Int) : unitQ Try.prog cfg PK4 LPc false 10 (.ptr outBase 0 0 0 :: groupA cacheP_sh (Tu.mk cacheP_fs ())) [boxB (Tu.mk cacheP_bs ((p_l_x, p_l), p_n))] = cacheP_r p_l_x p_l p_n := by kernel_rfl

/-- It comes to a thing of these kinds. -/
def cacheGood (r : Option Ret) : Prop := ∃ y : Picks_T × Cache_T, (pkOk y.1 ∧ cOk y.2) ∧ r = some { pan := false, res := .agg (Tu.mk Cache_tfs y.2), out := [boxB (Tu.mk cacheP_bs y.1)], new := [] }
theorem cacheG_leaf {b : Picks_T} {c : Cache_T} (h : pkOk b) (hc : cOk c) : cacheGood (some { pan := false, res := .agg (Tu.mk Cache_tfs c), out := [boxB (Tu.mk cacheP_bs b)], new := [] }) := ⟨(b, c), ⟨h, hc⟩, rfl⟩
theorem cache_tail (b : Picks_T) (c : Cache_T) (h : pkOk b) (hc : cOk c) : cacheGood (
    oK (numS.dec [AV.ptr 1000000 0 0 0, AV.int IntKind.i64 (IntKind.i64.wrap ((↑(List.map (mkV true Write_tfs) c.snd.snd.snd.snd.fst.snd).length : Int) + 1))] [{ v := 0, k := BK.box, fz := false, sz := 0, es := [AV.slc b.fst.fst (List.map (mkV false [Lf.fi IntKind.u8]) b.fst.snd), AV.int IntKind.i64 b.snd] }]) fun (d9 : ((Bool × List Int) × Int) × Int) =>
                        oK (numS.dec [AV.ptr 1000000 0 0 0, AV.int IntKind.i64 3] [{ v := 0, k := BK.box, fz := false, sz := 0, es := [AV.slc (numF d9.fst d9.snd).fst.fst.fst (List.map (mkV false [Lf.fi IntKind.u8]) (numF d9.fst d9.snd).fst.fst.snd), AV.int IntKind.i64 (numF d9.fst d9.snd).fst.snd] }]) fun (d10 : ((Bool × List Int) × Int) × Int) => oK (numS.dec [AV.ptr 1000000 0 0 0, AV.int IntKind.i64 5] [{ v := 0, k := BK.box, fz := false, sz := 0, es := [AV.slc (numF d10.fst d10.snd).fst.fst.fst (List.map (mkV false [Lf.fi IntKind.u8]) (numF d10.fst d10.snd).fst.fst.snd), AV.int IntKind.i64 (numF d10.fst d10.snd).fst.snd] }]) fun (d11 : ((Bool × List Int) × Int) × Int) => some { pan := false, res := AV.agg [AV.int IntKind.i64 c.fst, AV.int IntKind.i64 c.snd.fst, AV.int IntKind.i64 c.snd.snd.fst, AV.str c.snd.snd.snd.fst, AV.slc c.snd.snd.snd.snd.fst.fst (List.map (mkV true Write_tfs) c.snd.snd.snd.snd.fst.snd), AV.int IntKind.i64 (numF d9.fst d9.snd).snd, AV.bool (decide ((numF d10.fst d10.snd).snd = 0)), AV.bool (decide ((numF d11.fst d11.snd).snd = 0))], out := [{ v := 0, k := BK.box, fz := false, sz := 0, es := [AV.slc (numF d11.fst d11.snd).fst.fst.fst (List.map (mkV false [Lf.fi IntKind.u8]) (numF d11.fst d11.snd).fst.fst.snd), AV.int IntKind.i64 (numF d11.fst d11.snd).fst.snd] }], new := [] }) := by
  refine oK_msq numS b (IntKind.i64.wrap ((↑(List.map (mkV true Write_tfs) (dOf c)).length : Int) + 1)) h ?_
  generalize IntKind.i64.wrap ((↑(List.map (mkV true Write_tfs) (dOf c)).length : Int) + 1) = m
  have h1 := numF_ok (m := m) h
  simp only
  generalize numF b m = z1 at h1 ⊢
  refine oK_msq numS z1.1 (3 : Int) h1 ?_
  have h2 := numF_ok (m := 3) h1
  simp only
  generalize numF z1.1 3 = z2 at h2 ⊢
  refine oK_msq numS z2.1 (5 : Int) h2 ?_
  have h3 := numF_ok (m := 5) h2
  simp only
  generalize numF z2.1 5 = z3 at h3 ⊢
  exact cacheG_leaf (b := z3.1) (c := (c.1, c.2.1, c.2.2.1, c.2.2.2.1, c.2.2.2.2.1, z1.2, decide (z2.2 = 0), decide (z3.2 = 0))) h3 hc
theorem cache_good (x : Bool) (l : List Int) (n : Int) (h : pkOk ((x, l), n)) : cacheGood (cacheP_r x l n) := by
  unfold cacheP_r
  refine oK_msq numS ((x, l), n) (4 : Int) h ?_
  have h0 := numF_ok (m := 4) h
  simp only
  generalize numF ((x, l), n) 4 = z0 at h0 ⊢
  refine bK_iq (fun _ => ?_) (fun _ => ?_)
  · refine oK_msq numS z0.1 (2 : Int) h0 ?_
    have h1 := numF_ok (m := 2) h0
    simp only
    generalize numF z0.1 2 = z1 at h1 ⊢
    refine oK_msq numS z1.1 (100 : Int) h1 ?_
    have h2 := numF_ok (m := 100) h1
    simp only
    generalize numF z1.1 100 = z2 at h2 ⊢
    refine oK_msq numS z2.1 (9 : Int) h2 ?_
    have h3 := numF_ok (m := 9) h2
    simp only
    generalize numF z2.1 9 = z3 at h3 ⊢
    refine oK_msq numS z3.1 (3 : Int) h3 ?_
    have h4 := numF_ok (m := 3) h3
    have k4 := numF_lt (m := 3) h3 (by omega)
    simp only
    generalize numF z3.1 3 = z4 at h4 k4 ⊢
    refine bK_iq (fun _ => ?_) (fun c => absurd k4 c)
    refine oK_q (ldRow_strs [[], [98, 111, 100, 121], [108, 111, 110, 103, 101, 114, 32, 98, 111, 100, 121]] _ (show 0 + Int.toNat z4.2 < 3 by omega)) ?_
    generalize IntKind.i64.wrap (1 + z1.2) = m1
    generalize IntKind.i64.wrap (1 + z3.2) = m3
    have m4l : (([[], [98, 111, 100, 121], [108, 111, 110, 103, 101, 114, 32, 98, 111, 100, 121]] : List (List UInt8)).getD (0 + Int.toNat z4.2) []).length ≤ 24 := by
      generalize 0 + Int.toNat z4.2 = i
      match i with
      | 0 => decide
      | 1 => decide
      | 2 => decide
      | i + 3 => simp
    generalize ([[], [98, 111, 100, 121], [108, 111, 110, 103, 101, 114, 32, 98, 111, 100, 121]] : List (List UInt8)).getD (0 + Int.toNat z4.2) [] = m4 at m4l ⊢
    refine oK_fsq letRS (0, 0, 0, [], (true, []), 0, false, false, m1, z2.2, m3, m4) trivial ?_
    refine oK_msq numS z4.1 (7 : Int) h4 ?_
    have h5 := numF_ok (m := 7) h4
    have k5 := numF_lt (m := 7) h4 (by omega)
    simp only
    generalize numF z4.1 7 = z5 at h5 k5 ⊢
    have hp : caP (z5.1, (m1, z2.2, m3, m4, (true, []), 0, false, false), z5.2) := ⟨h5, ⟨by show ([] : List Write_T).length ≤ 5; simp, m4l⟩, k5.1, by show z5.2 ≤ 500; omega⟩
    have hs := caR_spec _ hp
    refine oK_lpq caH_inj _ hp ?_
    exact cache_tail (caR _).1 (caR _).2 hs.1 hs.2.1
  · refine oK_msq numS z0.1 (7 : Int) h0 ?_
    have h5 := numF_ok (m := 7) h0
    have k5 := numF_lt (m := 7) h0 (by omega)
    simp only
    generalize numF z0.1 7 = z5 at h5 k5 ⊢
    have hp : caP (z5.1, (0, 0, 0, [], (true, []), 0, false, false), z5.2) := ⟨h5, ⟨by show ([] : List Write_T).length ≤ 5; simp, by show ([] : List UInt8).length ≤ 24; simp⟩, k5.1, by show z5.2 ≤ 500; omega⟩
    have hs := caR_spec _ hp
    refine oK_lpq caH_inj _ hp ?_
    exact cache_tail (caR _).1 (caR _).2 hs.1 hs.2.1
/-- What is held, of numbers. -/
noncomputable def cacheF (b : Picks_T) : Picks_T × Cache_T := open Classical in if h : pkOk b then Classical.choose (cache_good b.1.1 b.1.2 b.2 h) else (b, (0, 0, 0, [], (true, []), 0, false, false))
noncomputable def cachePS : MS := ⟨cacheP_bs, cacheP_sh, cacheP_fs, cacheP_rsh, cacheP_rfs, fun b _ => pkOk b, fun b _ => cacheF b, none⟩
theorem cacheF_ok {b : Picks_T} (h : pkOk b) : pkOk (cacheF b).1 ∧ cOk (cacheF b).2 := by
  unfold cacheF
  rw [dif_pos h]
  exact (Classical.choose_spec (cache_good b.1.1 b.1.2 b.2 h)).1
theorem cacheP_v (p_l_x : Bool) (p_l : List Int) (p_n : Int) (h : pkOk ((p_l_x, p_l), p_n)) : cacheP_r p_l_x p_l p_n = some (cachePS.ret ((p_l_x, p_l), p_n) ()) := by
  have := (Classical.choose_spec (cache_good p_l_x p_l p_n h)).2
  rw [this]
  show _ = some (cachePS.out (cacheF ((p_l_x, p_l), p_n)))
  unfold cacheF
  rw [dif_pos h]
  rfl
theorem cacheP_ok : ∀ (b : Tu cacheP_bs) (d : Tu cacheP_fs), cachePS.pre b d → unitQ Try.prog cfg PK4 LPc false 10 (cachePS.args d) (cachePS.out0 b) = some (cachePS.ret b d)
  | ((p_l_x, p_l), p_n), (), h => (cacheP_w p_l_x p_l p_n).trans (cacheP_v p_l_x p_l p_n h)
noncomputable def PK5 : PKs := PK4.add 10 cachePS.pk
theorem PK5_ok : PKsOk Try.prog PK5 := PKsOk.ms (cfg := cfg) PK4_ok (fnOk PK4_ok 21) 10 rfl LPc (LPc_ok.loops) cachePS cacheP_ok

end Go.Proofs.Ytlhnpfpdjlcakaa
