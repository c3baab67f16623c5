/- A part of the proof: contracts of functions. -/
import Derived.Test.YtknikmehfnihpaaY
import Derived.Test.YtknikmehfnihpaaAbAny

set_option linter.unusedVariables false
set_option linter.unusedSimpArgs false
set_option maxRecDepth 100000
namespace Go.Proofs.Ytknikmehfnihpaa
open Go Go.Ab
noncomputable def clu (x : Bool) (d : Wait_T) (l : List Wait_T) : Option Ret := unitQ Try.prog cfg PKz LP0 true 15 [.slc x (mkV true Wait_tfs d :: l.map (mkV true Wait_tfs))] []
noncomputable def clu_r (x : Bool) (d : Wait_T) (l : List Wait_T) : Option Ret :=
  bK ((AV.agg [AV.int IntKind.i64 d.fst, AV.int IntKind.i64 d.snd.fst, AV.int IntKind.i64 d.snd.snd.fst, AV.int IntKind.i64 d.snd.snd.snd] :: List.map (mkV true Wait_tfs) l).all fun (y : AV) => decide (y.cells.length = 4)) (bK (true && bytesFit Try.prog 24 (0 + (AV.agg [AV.int IntKind.i64 d.fst, AV.int IntKind.i64 d.snd.fst, AV.int IntKind.i64 d.snd.snd.fst, AV.int IntKind.i64 d.snd.snd.snd] :: List.map (mkV true Wait_tfs) l).length)) (some { pan := false, res := AV.sref 2000000 0 0 (0 + (AV.agg [AV.int IntKind.i64 d.fst, AV.int IntKind.i64 d.snd.fst, AV.int IntKind.i64 d.snd.snd.fst, AV.int IntKind.i64 d.snd.snd.snd] :: List.map (mkV true Wait_tfs) l).length), out := [], new := [{ v := 0, k := BK.row, fz := false, sz := 4, es := AV.agg [AV.int IntKind.i64 d.fst, AV.int IntKind.i64 d.snd.fst, AV.int IntKind.i64 d.snd.snd.fst, AV.int IntKind.i64 d.snd.snd.snd] :: List.map (mkV true Wait_tfs) l }] }) none) none
theorem clu_w (x : Bool) (d : Wait_T) (l : List Wait_T) : clu x d l = clu_r x d l := by kernel_rfl

theorem clby : Try.prog.bytesOf 24 = 32 := by kernel_rfl
theorem clfit {n : Nat} (h : n ≤ 1000000) : bytesFit Try.prog 24 n = true := by
  simp only [bytesFit, clby, decide_eq_true_eq]; omega
def clA (d : Bool × List Wait_T) : List AV × List Blk := ([.slc d.1 (d.2.map (mkV true Wait_tfs))], [])
noncomputable def clP : PK := PK.of clA (fun d => 1 ≤ d.2.length ∧ d.2.length ≤ 100000) fun d => .leaf { pan := false, res := .sref newBase 0 0 (d.2.map (mkV true Wait_tfs)).length, out := [], new := [{ v := 0, k := .row, fz := false, sz := Wait_tfs.length, es := d.2.map (mkV true Wait_tfs) }] }
theorem cl_inj (d d' : Bool × List Wait_T) (h : clA d = clA d') : d = d' := by
  obtain ⟨x, l⟩ := d
  obtain ⟨x', l'⟩ := d'
  simp only [clA, List.cons.injEq, Prod.mk.injEq, AV.slc.injEq, and_true, true_and] at h
  rw [h.1, map_inj (fs := Wait_tfs) rfl h.2]
noncomputable def clPK : PKs := PKz.add 15 clP
theorem clPK_ok : PKsOk Try.prog clPK := PKsOk.of (cfg := cfg) PKz_ok (fnOk PKz_ok 21) 15 rfl LP0 fLoops_none clA _ _ true (fun d => by show 0 ≤ 1000; decide) (by
  rintro ⟨x, l⟩ ⟨h1, h2⟩
  match l, h1, h2 with
  | d :: l, h1, h2 =>
    refine (clu_w x d l).trans ?_
    unfold clu_r
    rw [bK_pos (by simp [AV.cells, mkV, mkA, Tu.mk]), bK_pos (by
      rw [Bool.true_and]
      refine clfit ?_
      simp only [List.length_cons, List.length_map] at h2 ⊢
      omega)]
    simp only [Alt.val, List.map_cons, List.length_cons, List.length_map, Nat.zero_add]
    rfl)
noncomputable def drop0 (x : Bool) (c : Int) : Option Ret := unitQ Try.prog cfg PKs0 LP0 false 10 [.slc x [], .int .i64 c] []
noncomputable def drop0_r (x : Bool) (c : Int) : Option Ret :=
  some { pan := false, res := AV.slc true [], out := [], new := [] }
theorem drop0_w (x : Bool) (c : Int) : drop0 x c = drop0_r x c := by kernel_rfl

noncomputable def PKd : PKs := clPK.add 17 dcdP
theorem PKd_ok : PKsOk Try.prog PKd := PKsOk.any clPK_ok 17 dcDA _ _ dcdO
abbrev drop_id : Nat := 10
abbrev drop_sh : Shp := [none, none]
abbrev drop_fs : List Lf := [.fl true Wait_tfs, .fi .i64]
abbrev drop_rsh : Shp := [none]
abbrev drop_rfs : List Lf := [.fl true Wait_tfs]
noncomputable def drop_r (l_x : Bool) (l : List Wait_T) (client : Int) : Option Ret :=
  oK (clP.dec [AV.slc l_x (List.map (mkV true Wait_tfs) l)] []) fun (d0 : Bool × List (Int × Int × Int × Int)) => oK (dcdP.dec [AV.sref 1000000 0 0 (List.map (mkV true Wait_tfs) d0.snd).length, AV.fn 18 [] [AV.ptr 1000001 0 0 0]] [{ v := 0, k := BK.row, fz := false, sz := 4, es := List.map (mkV true Wait_tfs) d0.snd }, { v := 0, k := BK.box, fz := false, sz := 0, es := [AV.int IntKind.i64 client] }]) fun (d1 : List (Int × Int × Int × Int) × Int) => bK (decide (0 + (dckF d1).length ≤ (List.map (mkV true Wait_tfs) (dckZ d1)).length)) (some { pan := false, res := AV.slc false (List.take (dckF d1).length (List.drop 0 (List.map (mkV true Wait_tfs) (dckZ d1)))), out := [], new := [] }) none
theorem drop_w (l_x : Bool) (l : List Wait_T) (client : Int) : unitQ Try.prog cfg PKd LP0 false 10 (groupA drop_sh (Tu.mk drop_fs ((l_x, l), client))) [] = drop_r l_x l client := by kernel_rfl

end Go.Proofs.Ytknikmehfnihpaa
