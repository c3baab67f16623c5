/- A part of the proof: contracts of functions. -/
import Derived.Test.YtkanmigbbpppnaaYw
import Derived.Test.YtkanmigbbpppnaaAbAny

set_option linter.unusedVariables false
set_option linter.unusedSimpArgs false
set_option maxRecDepth 100000
namespace Go.Proofs.Ytkanmigbbpppnaa
open Go Go.Ab
noncomputable def cluw (x : Bool) (d : Wait_T) (l : List Wait_T) : Option Ret := unitQ Try.prog cfg PKz LP0 true 27 [.slc x (mkV true Wait_tfs d :: l.map (mkV true Wait_tfs))] []
noncomputable def cluw_r (x : Bool) (d : Wait_T) (l : List Wait_T) : Option Ret :=
 bK ((AV.agg [i6 d.1, i6 d.2.1, i6 d.2.2.1, i6 d.2.2.2] :: mW l).all fun (y : AV) => decide (y.cells.length = 4)) (bK (true && bytesFit Try.prog 25 (0 + (AV.agg [i6 d.1, i6 d.2.1, i6 d.2.2.1, i6 d.2.2.2] :: mW l).length)) (some { pan := false, res := .sref 2000000 0 0 (0 + (AV.agg [i6 d.1, i6 d.2.1, i6 d.2.2.1, i6 d.2.2.2] :: mW l).length), out := [], new := [{ v := 0, k := .row, fz := false, sz := 4, es := AV.agg [i6 d.1, i6 d.2.1, i6 d.2.2.1, i6 d.2.2.2] :: mW l }] }) none) none
theorem cluw_w (x : Bool) (d : Wait_T) (l : List Wait_T) : cluw x d l = cluw_r x d l := by kernel_rfl

theorem clbyw : Try.prog.bytesOf 25 = 32 := by kernel_rfl
theorem clfitw {n : Nat} (h : n ≤ 1000000) : bytesFit Try.prog 25 n = true := by
 simp only [bytesFit, clbyw, decide_eq_true_eq]; omega
def clAw (d : Bool × List Wait_T) : List AV × List Blk := ([.slc d.1 (d.2.map (mkV true Wait_tfs))], [])
noncomputable def clPw : PK := PK.of clAw (fun d => 1 ≤ d.2.length ∧ d.2.length ≤ 100000) fun d => .leaf { pan := false, res := .sref newBase 0 0 (d.2.map (mkV true Wait_tfs)).length, out := [], new := [{ v := 0, k := .row, fz := false, sz := Wait_tfs.length, es := d.2.map (mkV true Wait_tfs) }] }
theorem cl_injw (d d' : Bool × List Wait_T) (h : clAw d = clAw d') : d = d' := by
 obtain ⟨x, l⟩ := d
 obtain ⟨x', l'⟩ := d'
 simp only [clAw, List.cons.injEq, Prod.mk.injEq, AV.slc.injEq, and_true, true_and] at h
 rw [h.1, map_inj (fs := Wait_tfs) rfl h.2]
noncomputable def clPKw : PKs := PKz.add 27 clPw
theorem clPK_okw : PKsOk Try.prog clPKw := PKsOk.of (cfg := cfg) PKz_ok (fnOk PKz_ok 21) 27 rfl LP0 fLoops_none clAw _ _ true (fun d => by show 0 ≤ 1000; decide) (by
 rintro ⟨x, l⟩ ⟨h1, h2⟩
 match l, h1, h2 with
 | d :: l, h1, h2 =>
  refine (cluw_w x d l).trans ?_
  unfold cluw_r
  rw [bK_pos (by simp [AV.cells, mkV, mkA, Tu.mk]), bK_pos (by
   rw [Bool.true_and]
   refine clfitw ?_
   simp only [List.length_cons, List.length_map] at h2 ⊢
   omega)]
  simp only [Alt.val, List.map_cons, List.length_cons, List.length_map, Nat.zero_add]
  rfl)
noncomputable def drop0w (x : Bool) (c : Int) : Option Ret := unitQ Try.prog cfg PKs0 LP0 false 50 [.slc x [], .int .i64 c] []
noncomputable def drop0w_r (x : Bool) (c : Int) : Option Ret :=
 some (rt (.slc true []))
theorem drop0w_w (x : Bool) (c : Int) : drop0w x c = drop0w_r x c := by kernel_rfl

noncomputable def PKdw : PKs := clPKw.add 62 dcdPw
theorem PKd_okw : PKsOk Try.prog PKdw := PKsOk.any clPK_okw 62 dcDAw _ _ dcdOw
abbrev dropw_id : Nat := 50
abbrev dropw_sh : Shp := [none, none]
abbrev dropw_fs : List Lf := [.fl true Wait_tfs, .fi .i64]
abbrev dropw_rsh : Shp := [none]
abbrev dropw_rfs : List Lf := [.fl true Wait_tfs]
noncomputable def dropw_r (l_x : Bool) (l : List Wait_T) (client : Int) : Option Ret :=
 oK (clPw.dec [sl l_x l] []) fun (d0 : Bool × List Wait_T) => oK (dcdPw.dec [.sref 1000000 0 0 (mW d0.2).length, .fn 63 [] [pt 1000001]] [(rw4 d0.2), (bx [i6 client])]) fun (d1 : List Wait_T × Int) => bK (decide (0 + (dckFw d1).length ≤ (mW (dckZw d1)).length)) (some (rt (.slc false (List.take (dckFw d1).length (List.drop 0 (mW (dckZw d1))))))) none
theorem dropw_w (l_x : Bool) (l : List Wait_T) (client : Int) : unitQ Try.prog cfg PKdw LP0 false 50 (groupA dropw_sh (Tu.mk dropw_fs ((l_x, l), client))) [] = dropw_r l_x l client := by kernel_rfl

end Go.Proofs.Ytkanmigbbpppnaa
