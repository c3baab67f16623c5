/- A part of the proof: contracts of functions. -/
import Derived.Test.YtkanmigbbpppnaaR
import Derived.Test.YtkanmigbbpppnaaAbAny

set_option linter.unusedVariables false
set_option linter.unusedSimpArgs false
set_option maxRecDepth 100000
namespace Go.Proofs.Ytkanmigbbpppnaa
open Go Go.Ab
abbrev BsD : Type := (Bool × List Lease_T) × Lease_T
def bsQ (l : List Lease_T) (t : Lease_T) : Int := ((bsN l t l.length 0 l.length : Nat) : Int)
def bsHd (d : BsD) : St := bsh d.1.1 d.1.2 d.2 0 (d.1.2.map (mkV true Lease_tfs)).length
noncomputable def bsL : LP := LP.of bsHd (fun d => d.1.2.length ≤ 100000) fun d => .leaf (bsE d.1.1 d.1.2 d.2 (bsQ d.1.2 d.2))
noncomputable def bsLP : LPs := LPs.add LP0 59 0 bsL
theorem bsLP_ok : LPok Try.prog cfg Q1 bsLP 59 := LPok.addH LPok.none bso fun d h => by
 have h' : d.1.2.length ≤ 100000 := h
 have := bs_run d.1.1 d.1.2 d.2 h' d.1.2.length 0 d.1.2.length (by omega) (by omega) (by omega) rounds (by simp only [rounds]; omega)
 unfold bsHd
 rw [List.length_map]
 exact this
theorem bsHd_inj (d d' : BsD) (h : bsHd d = bsHd d') : d = d' := by
 obtain ⟨⟨x, l⟩, t⟩ := d
 obtain ⟨⟨x', l'⟩, t'⟩ := d'
 simp only [bsHd, bsh, boxB, St.mk.injEq, List.cons.injEq, Prod.mk.injEq, AV.slc.injEq, Blk.mk.injEq, and_true, true_and] at h
 obtain ⟨⟨⟨h1, h2⟩, _⟩, h3⟩ := h
 rw [h1, map_inj (fs := Lease_tfs) rfl h2, mk_inj (fs := Lease_tfs) rfl h3]
def bsA (d : BsD) : List AV × List Blk := ([.slc d.1.1 (d.1.2.map (mkV true Lease_tfs)), .agg (Tu.mk Lease_tfs d.2), .fn 60 [] []], [])
noncomputable def bsu (x : Bool) (l : List Lease_T) (t : Lease_T) : Option Ret := unitQ Try.prog cfg Q1 bsLP false 59 (bsA ((x, l), t)).1 (bsA ((x, l), t)).2
noncomputable def bsu_r (x : Bool) (l : List Lease_T) (t : Lease_T) : Option Ret :=
 oK (bsL.dec (sf [(0, sl x l), (2, .fn 60 [] []), (4, pt 64), (8, i6 (↑(mW l).length : Int)), (9, i6 0), (10, i6 (↑(mW l).length : Int))] [(64, (bx [i6 t.1, i6 t.2.1, i6 t.2.2.1, i6 t.2.2.2]))])) fun (d0 : LW × Int × Int × Int × Int) => bK (decide (bsQ d0.1.2 d0.2 < (↑(mW d0.1.2).length : Int))) (oK (elemAt true Wait_tfs (mW d0.1.2) (bsQ d0.1.2 d0.2)) fun (d1 : Int × Int × Int × Int) => oK (orderS.dec [AV.agg [i6 d1.1, i6 d1.2.1, i6 d1.2.2.1, i6 d1.2.2.2], AV.agg [i6 d0.2.1, i6 d0.2.2.1, i6 d0.2.2.2.1, i6 d0.2.2.2.2]] []) fun (d2 : Int × Int × Int × Int × Int × Int × Int × Int) => some (rt (.tup [i6 (bsQ d0.1.2 d0.2), .bool (decide (ordF (d2.1, d2.2.1, d2.2.2.1, d2.2.2.2.1) d2.2.2.2.2 = 0))]))) (some (rt (.tup [i6 (bsQ d0.1.2 d0.2), .bool false])))
theorem bsu_w (x : Bool) (l : List Lease_T) (t : Lease_T) : bsu x l t = bsu_r x l t := by kernel_rfl

def bsI (l : List Lease_T) (t : Lease_T) : Bool := decide (bsQ l t < (l.length : Int)) && decide (ordF (l.getD (bsQ l t).toNat zL) t = 0)
theorem bsA_inj (d d' : BsD) (h : bsA d = bsA d') : d = d' := by
 obtain ⟨⟨x, l⟩, t⟩ := d
 obtain ⟨⟨x', l'⟩, t'⟩ := d'
 simp only [bsA, List.cons.injEq, Prod.mk.injEq, AV.slc.injEq, AV.agg.injEq, and_true, true_and] at h
 rw [h.1.1, map_inj (fs := Lease_tfs) rfl h.1.2, mk_inj (fs := Lease_tfs) rfl h.2]
noncomputable def bsP : PK := PK.of bsA (fun d => d.1.2.length ≤ 100000) fun d => .leaf { pan := false, res := .tup [.int .i64 (bsQ d.1.2 d.2), .bool (bsI d.1.2 d.2)], out := [], new := [] }
theorem bsO (d : BsD) (h : d.1.2.length ≤ 100000) : CallOk Try.prog 59 (bsA d).1 (bsA d).2 { pan := false, res := .tup [.int .i64 (bsQ d.1.2 d.2), .bool (bsI d.1.2 d.2)], out := [], new := [] } := by
 obtain ⟨⟨x, l⟩, t⟩ := d
 have h' : l.length ≤ 100000 := h
 refine CallOk.unit (fnOk Q1_ok 21) rfl bsLP_ok.loops (o := false) (by show 0 ≤ 1000; decide) ((bsu_w x l t).trans ?_)
 have e : bsI l t = (decide (bsQ l t < (l.length : Int)) && decide (ordF (l.getD (bsQ l t).toNat zL) t = 0)) := rfl
 have h0 : 0 ≤ bsQ l t := by show (0 : Int) ≤ ((bsN l t l.length 0 l.length : Nat) : Int); omega
 unfold bsu_r
 refine oK_lpq (Q := (· = _)) bsHd_inj ((x, l), t) h' ?_
 dsimp only
 rw [e]
 generalize bsQ l t = q at h0 ⊢
 refine bK_iq (Q := (· = _)) (fun c => ?_) (fun c => ?_)
 ·rw [List.length_map] at c
  refine oK_atq (Q := (· = _)) (fs := Lease_tfs) zL h0 (by omega) ?_
  generalize l.getD q.toNat zL = d
  refine oK_fsq (Q := (· = _)) orderS (d.1, d.2.1, d.2.2.1, d.2.2.2, t) trivial ?_
  rw [decide_eq_true c]; rfl
 ·rw [List.length_map] at c
  rw [decide_eq_false c]; rfl
noncomputable def S1 : PKs := PK0.add 59 bsP
theorem S1_ok : PKsOk Try.prog S1 := PKsOk.any PK0_ok 59 bsA _ _ bsO
abbrev holds_id : Nat := 64
abbrev holds_sh : Shp := [none, none, none, none]
abbrev holds_fs : List Lf := [.fl true Lease_tfs, .fi .i64, .fi .i64, .fi .i64]
abbrev holds_rsh : Shp := [none]
abbrev holds_rfs : List Lf := [.fi .i64]
noncomputable def holds_r (l_x : Bool) (l : List Lease_T) (now : Int) (client : Int) (file : Int) : Option Ret :=
 oK (bsP.dec [sl l_x l, AV.agg [i6 client, i6 file, i6 0, i6 0], .fn 60 [] []] []) fun (d0 : LW × Int × Int × Int × Int) => bK (!bsI d0.1.2 d0.2) (some (rt (i6 0))) (oK (elemAt true Wait_tfs (mW l) (bsQ d0.1.2 d0.2)) fun (d1 : Int × Int × Int × Int) => bK (decide (d1.2.2.2 ≤ now)) (some (rt (i6 0))) (oK (elemAt true Wait_tfs (mW l) (bsQ d0.1.2 d0.2)) fun (d2 : Int × Int × Int × Int) => some (rt (i6 d2.2.2.1))))
theorem holds_w (l_x : Bool) (l : List Lease_T) (now : Int) (client : Int) (file : Int) : unitQ Try.prog cfg S1 LP0 false 64 (groupA holds_sh (Tu.mk holds_fs ((l_x, l), now, client, file))) [] = holds_r l_x l now client file := by kernel_rfl

end Go.Proofs.Ytkanmigbbpppnaa
