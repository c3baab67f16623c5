/- A part of the proof: contracts of functions. -/
import Derived.Test.YtkanmigbbpppnaaB2
import Derived.Test.YtkanmigbbpppnaaSw
import Derived.Test.YtkanmigbbpppnaaTw
import Derived.Test.YtkanmigbbpppnaaAbAny

set_option linter.unusedVariables false
set_option linter.unusedSimpArgs false
set_option maxRecDepth 100000
namespace Go.Proofs.Ytkanmigbbpppnaa
open Go Go.Ab
noncomputable def cwu (x : Bool) (d : Wait_T) (l : List Wait_T) : Option Ret := unitQ Try.prog cfg PKz LP0 true 27 [.slc x (mkV true Wait_tfs d :: l.map (mkV true Wait_tfs))] []
noncomputable def cwu_r (x : Bool) (d : Wait_T) (l : List Wait_T) : Option Ret :=
 bK ((AV.agg [i6 d.1, i6 d.2.1, i6 d.2.2.1, i6 d.2.2.2] :: mW l).all fun (y : AV) => decide (y.cells.length = 4)) (bK (true && bytesFit Try.prog 25 (0 + (AV.agg [i6 d.1, i6 d.2.1, i6 d.2.2.1, i6 d.2.2.2] :: mW l).length)) (some { pan := false, res := .sref 2000000 0 0 (0 + (AV.agg [i6 d.1, i6 d.2.1, i6 d.2.2.1, i6 d.2.2.2] :: mW l).length), out := [], new := [{ v := 0, k := .row, fz := false, sz := 4, es := AV.agg [i6 d.1, i6 d.2.1, i6 d.2.2.1, i6 d.2.2.2] :: mW l }] }) none) none
theorem cwu_w (x : Bool) (d : Wait_T) (l : List Wait_T) : cwu x d l = cwu_r x d l := by kernel_rfl

theorem cwby : Try.prog.bytesOf 25 = 32 := by kernel_rfl
theorem cwfit {n : Nat} (h : n ≤ 1000000) : bytesFit Try.prog 25 n = true := by
 simp only [bytesFit, cwby, decide_eq_true_eq]; omega
abbrev cw_fs : List Lf := [.fl true Wait_tfs]
def cwF (d : Bool × List Wait_T) : Bool × List Wait_T := (true, d.2)
noncomputable def cwS : FS := ⟨[none], cw_fs, [none], cw_fs, fun d => d.2.length ≤ 100000, fun d => cwF d, some (0, Wait_tfs.length)⟩
theorem cw_ok : ∀ d : Tu cwS.fs, cwS.pre d → (∃ x, cwS.args d = [.slc x []] ∧ cwS.ret d = { pan := false, res := .slc true [], out := [], new := [] }) ∨ unitQ Try.prog cfg PKz LP0 true 27 (cwS.args d) [] = some (cwS.ret d)
 | (x, []), _ => .inl ⟨x, rfl, rfl⟩
 | (x, d :: l), h => .inr (by
  refine (cwu_w x d l).trans ?_
  unfold cwu_r
  have h' : (d :: l).length ≤ 100000 := h
  rw [bK_pos (by simp [AV.cells, mkV, mkA, Tu.mk]), bK_pos (by
   rw [Bool.true_and]
   refine cwfit ?_
   simp only [List.length_cons, List.length_map] at h' ⊢
   omega)]
  show _ = some (cwS.alts (x, d :: l)).val
  refine (congrArg some ?_).trans (congrArg some (own_one (sz := Wait_tfs.length) (x := true) (l := d :: l) (f := mkV true Wait_tfs) (out := [])).symm)
  rw [if_neg (by simp)]
  simp only [List.length_cons, List.length_map, Nat.zero_add]
  rfl)
noncomputable def cwPK : PKs := PKz.add 27 cwS.pk
theorem cwPK_ok : PKsOk Try.prog cwPK := PKsOk.cl (cfg := cfg) PKz_ok (fnOk PKz_ok 21) 27 rfl clone27_empty LP0 fLoops_none cwS cw_ok
noncomputable def Da1 : PKs := PKz.add 46 pruneS.pk
theorem Da1_ok : PKsOk Try.prog Da1 := PKsOk.anyF PKz_ok 46 pruneS pruneO
noncomputable def Da2 : PKs := Da1.add 27 cwS.pk
abbrev pruned_id : Nat := 29
abbrev pruned_sh : Shp := [some 2, none]
abbrev pruned_fs : List Lf := [.fl true Lease_tfs, .fl true Wait_tfs, .fi .i64]
abbrev pruned_rsh : Shp := [some 2]
abbrev pruned_rfs : List Lf := [.fl true Lease_tfs, .fl true Wait_tfs]
noncomputable def pruned_r (d_Leases_x : Bool) (d_Leases : List Lease_T) (d_Line_x : Bool) (d_Line : List Wait_T) (now : Int) : Option Ret :=
 oK (pruneS.dec [sl d_Leases_x d_Leases, i6 now] []) fun (d0 : LW × Int) => oK (cwS.dec [sl d_Line_x d_Line] []) fun (d1 : Bool × List Wait_T) => bK (mW (cwF d1).2).isEmpty (some (rt (AV.agg [sl d0.1.2.isEmpty (pruneQ d0.1.2 d0.2), .slc true []]))) (bK (decide (0 + (mW (cwF d1).2).length ≤ (mW (cwF d1).2).length)) (some (rt (AV.agg [sl d0.1.2.isEmpty (pruneQ d0.1.2 d0.2), .slc false (List.take (mW (cwF d1).2).length (List.drop 0 (mW (cwF d1).2)))]))) none)
theorem pruned_w (d_Leases_x : Bool) (d_Leases : List Lease_T) (d_Line_x : Bool) (d_Line : List Wait_T) (now : Int) : unitQ Try.prog cfg Da2 LP0 false 29 (groupA pruned_sh (Tu.mk pruned_fs ((d_Leases_x, d_Leases), (d_Line_x, d_Line), now))) [] = pruned_r d_Leases_x d_Leases d_Line_x d_Line now := by kernel_rfl

noncomputable def Db1 : PKs := PKz.add 51 clashS.pk
theorem Db1_ok : PKsOk Try.prog Db1 := PKsOk.anyF PKz_ok 51 clashS clashO
abbrev dclash_id : Nat := 34
abbrev dclash_sh : Shp := [some 2, none, some 4]
abbrev dclash_fs : List Lf := [.fl true Lease_tfs, .fl true Wait_tfs, .fi .i64, .fi .i64, .fi .i64, .fi .i64, .fi .i64]
abbrev dclash_rsh : Shp := [none]
abbrev dclash_rfs : List Lf := [.fl false [.fi .i64]]
noncomputable def dclash_r (d_Leases_x : Bool) (d_Leases : List Lease_T) (d_Line_x : Bool) (d_Line : List Wait_T) (now : Int) (w_Client : Int) (w_Seq : Int) (w_File : Int) (w_Mode : Int) : Option Ret :=
 oK (clashS.dec [sl d_Leases_x d_Leases, i6 now, i6 w_Client, i6 w_File, i6 w_Mode] []) fun (d0 : LW × Int × Int × Int × Int) => some (rt (.slc (csF d0.1.2 d0.2.1 d0.2.2.1 d0.2.2.2.1 d0.2.2.2.2).isEmpty (mi (csF d0.1.2 d0.2.1 d0.2.2.1 d0.2.2.2.1 d0.2.2.2.2))))
theorem dclash_w (d_Leases_x : Bool) (d_Leases : List Lease_T) (d_Line_x : Bool) (d_Line : List Wait_T) (now : Int) (w_Client : Int) (w_Seq : Int) (w_File : Int) (w_Mode : Int) : unitQ Try.prog cfg Db1 LP0 false 34 (groupA dclash_sh (Tu.mk dclash_fs ((d_Leases_x, d_Leases), (d_Line_x, d_Line), now, w_Client, w_Seq, w_File, w_Mode))) [] = dclash_r d_Leases_x d_Leases d_Line_x d_Line now w_Client w_Seq w_File w_Mode := by kernel_rfl

noncomputable def Dc1 : PKs := Db1.add 47 aheadSw.pk
theorem Dc1_ok : PKsOk Try.prog Dc1 := PKsOk.anyF Db1_ok 47 aheadSw aheadOw
abbrev dmay_id : Nat := 32
abbrev dmay_sh : Shp := [some 2, none, some 4]
abbrev dmay_fs : List Lf := [.fl true Lease_tfs, .fl true Wait_tfs, .fi .i64, .fi .i64, .fi .i64, .fi .i64, .fi .i64]
abbrev dmay_rsh : Shp := [none]
abbrev dmay_rfs : List Lf := [.fb]
noncomputable def dmay_r (d_Leases_x : Bool) (d_Leases : List Lease_T) (d_Line_x : Bool) (d_Line : List Wait_T) (now : Int) (w_Client : Int) (w_Seq : Int) (w_File : Int) (w_Mode : Int) : Option Ret :=
 oK (clashS.dec [sl d_Leases_x d_Leases, i6 now, i6 w_Client, i6 w_File, i6 w_Mode] []) fun (d0 : LW × Int × Int × Int × Int) => bK (decide ((↑(mi (csF d0.1.2 d0.2.1 d0.2.2.1 d0.2.2.2.1 d0.2.2.2.2)).length : Int) = 0)) (oK (aheadSw.dec [sl d_Line_x d_Line, i6 w_Client, i6 w_File] []) fun (d1 : LW × Int × Int) => some (rt (.bool !aheadQw d1))) (some (rt (.bool false)))
theorem dmay_w (d_Leases_x : Bool) (d_Leases : List Lease_T) (d_Line_x : Bool) (d_Line : List Wait_T) (now : Int) (w_Client : Int) (w_Seq : Int) (w_File : Int) (w_Mode : Int) : unitQ Try.prog cfg Dc1 LP0 false 32 (groupA dmay_sh (Tu.mk dmay_fs ((d_Leases_x, d_Leases), (d_Line_x, d_Line), now, w_Client, w_Seq, w_File, w_Mode))) [] = dmay_r d_Leases_x d_Leases d_Line_x d_Line now w_Client w_Seq w_File w_Mode := by kernel_rfl

noncomputable def Dd1 : PKs := PKz.add 49 granS.pk
theorem Dd1_ok : PKsOk Try.prog Dd1 := PKsOk.anyF PKz_ok 49 granS granO
noncomputable def Dd2 : PKs := Dd1.add 50 dropSw.pk
theorem Dd2_ok : PKsOk Try.prog Dd2 := PKsOk.anyF Dd1_ok 50 dropSw dropOw
abbrev dlets_id : Nat := 33
abbrev dlets_sh : Shp := [some 2, none, some 4]
abbrev dlets_fs : List Lf := [.fl true Lease_tfs, .fl true Wait_tfs, .fi .i64, .fi .i64, .fi .i64, .fi .i64, .fi .i64]
abbrev dlets_rsh : Shp := [some 2]
abbrev dlets_rfs : List Lf := [.fl true Lease_tfs, .fl true Wait_tfs]
noncomputable def dlets_r (d_Leases_x : Bool) (d_Leases : List Lease_T) (d_Line_x : Bool) (d_Line : List Wait_T) (now : Int) (w_Client : Int) (w_Seq : Int) (w_File : Int) (w_Mode : Int) : Option Ret :=
 bK (decide (0 < now)) (bK (decide (IntKind.i64.wrap (9223372036854775807 - now) < 60)) (oK (granS.dec [sl d_Leases_x d_Leases, AV.agg [i6 w_Client, i6 w_File, i6 w_Mode, i6 9223372036854775807]] []) fun (d0 : LW × Int × Int × Int × Int) => oK (dropSw.dec [sl d_Line_x d_Line, i6 w_Client] []) fun (d1 : LW × Int) => some (rt (AV.agg [sl false (granQ d0.1.2 d0.2), sl d1.1.2.isEmpty (dropFw d1.1.2 d1.2)]))) (oK (granS.dec [sl d_Leases_x d_Leases, AV.agg [i6 w_Client, i6 w_File, i6 w_Mode, i6 (IntKind.i64.wrap (now + 60))]] []) fun (d2 : LW × Int × Int × Int × Int) => oK (dropSw.dec [sl d_Line_x d_Line, i6 w_Client] []) fun (d3 : LW × Int) => some (rt (AV.agg [sl false (granQ d2.1.2 d2.2), sl d3.1.2.isEmpty (dropFw d3.1.2 d3.2)]))))
 (oK (granS.dec [sl d_Leases_x d_Leases, AV.agg [i6 w_Client, i6 w_File, i6 w_Mode, i6 (IntKind.i64.wrap (now + 60))]] []) fun (d4 : LW × Int × Int × Int × Int) => oK (dropSw.dec [sl d_Line_x d_Line, i6 w_Client] []) fun (d5 : LW × Int) => some (rt (AV.agg [sl false (granQ d4.1.2 d4.2), sl d5.1.2.isEmpty (dropFw d5.1.2 d5.2)])))
theorem dlets_w (d_Leases_x : Bool) (d_Leases : List Lease_T) (d_Line_x : Bool) (d_Line : List Wait_T) (now : Int) (w_Client : Int) (w_Seq : Int) (w_File : Int) (w_Mode : Int) : unitQ Try.prog cfg Dd2 LP0 false 33 (groupA dlets_sh (Tu.mk dlets_fs ((d_Leases_x, d_Leases), (d_Line_x, d_Line), now, w_Client, w_Seq, w_File, w_Mode))) [] = dlets_r d_Leases_x d_Leases d_Line_x d_Line now w_Client w_Seq w_File w_Mode := by kernel_rfl

theorem Da2_ok : PKsOk Try.prog Da2 := PKsOk.take Da1_ok cwPK_ok rfl
noncomputable def prunedS : FS := ⟨pruned_sh, pruned_fs, pruned_rsh, pruned_rfs, fun d => d.1.2.length ≤ 100000 ∧ d.2.1.2.length ≤ 100000, fun d => ((d.1.2.isEmpty, pruneQ d.1.2 d.2.2), (d.2.1.2.isEmpty, d.2.1.2)), none⟩
theorem prunedO : ∀ d : Tu prunedS.fs, prunedS.pre d → CallOk Try.prog 29 (prunedS.args d) [] (prunedS.ret d) := by
 rintro ⟨⟨lx, L⟩, ⟨wx, W⟩, now⟩ ⟨h1, h2⟩
 refine CallOk.unit (fnOk Da2_ok 21) rfl fLoops_none (o := false) (by show 0 ≤ 1000; decide) ((pruned_w lx L wx W now).trans ?_)
 show _ = some (prunedS.out ((L.isEmpty, pruneQ L now), (W.isEmpty, W)))
 unfold pruned_r
 refine oK_fsq (Q := (· = _)) pruneS ((lx, L), now) h1 ?_
 refine oK_fsq (Q := (· = _)) cwS (wx, W) h2 ?_
 have e : (cwF (wx, W)).2 = W := rfl
 rw [e]
 cases W with
 | nil => rfl
 | cons a r =>
  refine bK_fq (Q := (· = _)) rfl (bK_tq (Q := (· = _)) (by simp) ?_)
  rw [List.drop_zero, List.take_length]
  rfl
noncomputable def dclashS : FS := ⟨dclash_sh, dclash_fs, dclash_rsh, dclash_rfs, fun d => d.1.2.length ≤ 100000, fun d => ((csF d.1.2 d.2.2.1 d.2.2.2.1 d.2.2.2.2.2.1 d.2.2.2.2.2.2).isEmpty, csF d.1.2 d.2.2.1 d.2.2.2.1 d.2.2.2.2.2.1 d.2.2.2.2.2.2), none⟩
theorem dclashO : ∀ d : Tu dclashS.fs, dclashS.pre d → CallOk Try.prog 34 (dclashS.args d) [] (dclashS.ret d) := by
 rintro ⟨⟨lx, L⟩, ⟨wx, W⟩, now, w⟩ h1
 refine CallOk.unit (fnOk Db1_ok 21) rfl fLoops_none (o := false) (by show 0 ≤ 1000; decide) ((dclash_w lx L wx W now w.1 w.2.1 w.2.2.1 w.2.2.2).trans ?_)
 unfold dclash_r
 exact oK_fsq (Q := (· = _)) clashS ((lx, L), now, w.1, w.2.2.1, w.2.2.2) h1 rfl
def mayQd (L : List Lease_T) (W : List Wait_T) (now : Int) (w : Wait_T) : Bool := decide (csF L now w.1 w.2.2.1 w.2.2.2 = []) && !aheadNw w.1 w.2.2.1 W
noncomputable def dmayS : FS := ⟨dmay_sh, dmay_fs, dmay_rsh, dmay_rfs, fun d => d.1.2.length ≤ 100000 ∧ d.2.1.2.length ≤ 100000, fun d => mayQd d.1.2 d.2.1.2 d.2.2.1 d.2.2.2, none⟩
theorem dmayO : ∀ d : Tu dmayS.fs, dmayS.pre d → CallOk Try.prog 32 (dmayS.args d) [] (dmayS.ret d) := by
 rintro ⟨⟨lx, L⟩, ⟨wx, W⟩, now, w⟩ ⟨h1, h2⟩
 refine CallOk.unit (fnOk Dc1_ok 21) rfl fLoops_none (o := false) (by show 0 ≤ 1000; decide) ((dmay_w lx L wx W now w.1 w.2.1 w.2.2.1 w.2.2.2).trans ?_)
 show _ = some (dmayS.out (decide (csF L now w.1 w.2.2.1 w.2.2.2 = []) && !aheadNw w.1 w.2.2.1 W))
 unfold dmay_r
 refine oK_fsq (Q := (· = _)) clashS ((lx, L), now, w.1, w.2.2.1, w.2.2.2) h1 ?_
 dsimp only
 rw [List.length_map]
 refine bK_iq (Q := (· = _)) (fun c => ?_) (fun c => ?_)
 ·have e : csF L now w.1 w.2.2.1 w.2.2.2 = [] := List.eq_nil_of_length_eq_zero (by omega)
  rw [decide_eq_true e]
  exact oK_fsq (Q := (· = _)) aheadSw ((wx, W), w.1, w.2.2.1) h2 rfl
 ·rw [decide_eq_false (fun e => c (by rw [e]; rfl))]
  rfl
def letsL (L : List Lease_T) (now : Int) (w : Wait_T) : List Lease_T := granQ L (w.1, w.2.2.1, w.2.2.2, now + 60)
def letsW (W : List Wait_T) (w : Wait_T) : List Wait_T := dropFw W w.1
noncomputable def dletsS : FS := ⟨dlets_sh, dlets_fs, dlets_rsh, dlets_rfs, fun d => (d.1.2.length ≤ 100000 ∧ d.2.1.2.length ≤ 100000) ∧ (0 ≤ d.2.2.1 ∧ d.2.2.1 ≤ 1000000), fun d => ((false, letsL d.1.2 d.2.2.1 d.2.2.2), (d.2.1.2.isEmpty, letsW d.2.1.2 d.2.2.2)), none⟩
theorem dletsO : ∀ d : Tu dletsS.fs, dletsS.pre d → CallOk Try.prog 33 (dletsS.args d) [] (dletsS.ret d) := by
 rintro ⟨⟨lx, L⟩, ⟨wx, W⟩, now, w⟩ ⟨⟨h1, h2⟩, h3, h4⟩
 have h3 : (0 : Int) ≤ now := h3
 have h4 : @LE.le Int _ now 1000000 := h4
 refine CallOk.unit (fnOk Dd2_ok 21) rfl fLoops_none (o := false) (by show 0 ≤ 1000; decide) ((dlets_w lx L wx W now w.1 w.2.1 w.2.2.1 w.2.2.2).trans ?_)
 show _ = some (dletsS.out ((false, granQ L (w.1, w.2.2.1, w.2.2.2, now + 60)), (W.isEmpty, dropFw W w.1)))
 unfold dlets_r
 rw [w64 (n := now + 60) (by omega) (by omega), w64 (n := 9223372036854775807 - now) (by omega) (by omega)]
 refine bK_iq (Q := (· = _)) (fun _ => bK_fq (Q := (· = _)) (decide_eq_false (by omega)) ?_) (fun _ => ?_)
 ·refine oK_fsq (Q := (· = _)) granS ((lx, L), (w.1, w.2.2.1, w.2.2.2, now + 60)) h1 ?_
  exact oK_fsq (Q := (· = _)) dropSw ((wx, W), w.1) h2 rfl
 ·refine oK_fsq (Q := (· = _)) granS ((lx, L), (w.1, w.2.2.1, w.2.2.2, now + 60)) h1 ?_
  exact oK_fsq (Q := (· = _)) dropSw ((wx, W), w.1) h2 rfl
noncomputable def De1 : PKs := PKz.add 29 prunedS.pk
noncomputable def De2 : PKs := De1.add 32 dmayS.pk
noncomputable def De3 : PKs := De2.add 33 dletsS.pk
noncomputable def De4 : PKs := De3.add 34 dclashS.pk
noncomputable def De5 : PKs := De4.add 40 putSw.pk
theorem De1_ok : PKsOk Try.prog De1 := PKsOk.anyF PKz_ok 29 prunedS prunedO
theorem De2_ok : PKsOk Try.prog De2 := PKsOk.anyF De1_ok 32 dmayS dmayO
theorem De3_ok : PKsOk Try.prog De3 := PKsOk.anyF De2_ok 33 dletsS dletsO
theorem De4_ok : PKsOk Try.prog De4 := PKsOk.anyF De3_ok 34 dclashS dclashO
theorem De5_ok : PKsOk Try.prog De5 := PKsOk.anyF De4_ok 40 putSw putOw
abbrev dask_id : Nat := 17
abbrev dask_sh : Shp := [some 2, none, some 4]
abbrev dask_fs : List Lf := [.fl true Lease_tfs, .fl true Wait_tfs, .fi .i64, .fi .i64, .fi .i64, .fi .i64, .fi .i64]
abbrev dask_rsh : Shp := [some 2, none, none, none]
abbrev dask_rfs : List Lf := [.fl true Lease_tfs, .fl true Wait_tfs, .fb, .fl false [.fi .i64], .fi .i64]
noncomputable def dask_r (d_Leases_x : Bool) (d_Leases : List Lease_T) (d_Line_x : Bool) (d_Line : List Wait_T) (now : Int) (w_Client : Int) (w_Seq : Int) (w_File : Int) (w_Mode : Int) : Option Ret :=
 oK (prunedS.dec [AV.agg [sl d_Leases_x d_Leases, sl d_Line_x d_Line], i6 now] []) fun (d0 : LW × LW × Int) =>
 oK (dmayS.dec [AV.agg [sl d0.1.2.isEmpty (pruneQ d0.1.2 d0.2.2), sl d0.2.1.2.isEmpty d0.2.1.2], i6 now, AV.agg [i6 w_Client, i6 w_Seq, i6 w_File, i6 w_Mode]] []) fun (d1 : LW × LW × Int × Int × Int × Int × Int) =>
 bK (mayQd d1.1.2 d1.2.1.2 d1.2.2.1 d1.2.2.2) (oK (dletsS.dec [AV.agg [sl d0.1.2.isEmpty (pruneQ d0.1.2 d0.2.2), sl d0.2.1.2.isEmpty d0.2.1.2], i6 now, AV.agg [i6 w_Client, i6 w_Seq, i6 w_File, i6 w_Mode]] []) fun (d2 : LW × LW × Int × Int × Int × Int × Int) => some (rt (.tup [AV.agg [sl false (letsL d2.1.2 d2.2.2.1 d2.2.2.2), sl d2.2.1.2.isEmpty (letsW d2.2.1.2 d2.2.2.2)], .bool true, .slc true [], i6 0])))
 (oK (putSw.dec [sl d0.2.1.2.isEmpty d0.2.1.2, AV.agg [i6 w_Client, i6 w_Seq, i6 w_File, i6 w_Mode]] []) fun (d3 : LW × Int × Int × Int × Int) =>
 bK (!(putQw d3.1.2 d3.2).2) (some (rt (.tup [AV.agg [sl d0.1.2.isEmpty (pruneQ d0.1.2 d0.2.2), sl d0.2.1.2.isEmpty d0.2.1.2], .bool false, .slc true [], i6 3]))) (oK (dclashS.dec [AV.agg [sl d0.1.2.isEmpty (pruneQ d0.1.2 d0.2.2), .slc false (mW (putQw d3.1.2 d3.2).1)], i6 now, AV.agg [i6 w_Client, i6 w_Seq, i6 w_File, i6 w_Mode]] []) fun (d4 : LW × LW × Int × Int × Int × Int × Int) => some (rt (.tup [AV.agg [sl d0.1.2.isEmpty (pruneQ d0.1.2 d0.2.2), .slc false (mW (putQw d3.1.2 d3.2).1)], .bool false, .slc (csF d4.1.2 d4.2.2.1 d4.2.2.2.1 d4.2.2.2.2.2.1 d4.2.2.2.2.2.2).isEmpty (mi (csF d4.1.2 d4.2.2.1 d4.2.2.2.1 d4.2.2.2.2.2.1 d4.2.2.2.2.2.2)), i6 0]))))
theorem dask_w (d_Leases_x : Bool) (d_Leases : List Lease_T) (d_Line_x : Bool) (d_Line : List Wait_T) (now : Int) (w_Client : Int) (w_Seq : Int) (w_File : Int) (w_Mode : Int) : unitQ Try.prog cfg De5 LP0 false 17 (groupA dask_sh (Tu.mk dask_fs ((d_Leases_x, d_Leases), (d_Line_x, d_Line), now, w_Client, w_Seq, w_File, w_Mode))) [] = dask_r d_Leases_x d_Leases d_Line_x d_Line now w_Client w_Seq w_File w_Mode := by kernel_rfl

noncomputable def Dg1 : PKs := PKz.add 26 dropS.pk
theorem Dg1_ok : PKsOk Try.prog Dg1 := PKsOk.anyF PKz_ok 26 dropS dropO
noncomputable def Dg2 : PKs := Dg1.add 27 cwS.pk
theorem Dg2_ok : PKsOk Try.prog Dg2 := PKsOk.take Dg1_ok cwPK_ok rfl
abbrev dgive_id : Nat := 12
abbrev dgive_sh : Shp := [some 2, none, none]
abbrev dgive_fs : List Lf := [.fl true Lease_tfs, .fl true Wait_tfs, .fi .i64, .fi .i64]
abbrev dgive_rsh : Shp := [some 2]
abbrev dgive_rfs : List Lf := [.fl true Lease_tfs, .fl true Wait_tfs]
noncomputable def dgive_r (d_Leases_x : Bool) (d_Leases : List Lease_T) (d_Line_x : Bool) (d_Line : List Wait_T) (client : Int) (file : Int) : Option Ret :=
 oK (dropS.dec [sl d_Leases_x d_Leases, i6 client, i6 file] []) fun (d0 : LW × Int × Int) => oK (cwS.dec [sl d_Line_x d_Line] []) fun (d1 : Bool × List Wait_T) => bK (mW (cwF d1).2).isEmpty (some (rt (AV.agg [sl d0.1.2.isEmpty (dropQ d0.1.2 d0.2.1 d0.2.2), .slc true []]))) (bK (decide (0 + (mW (cwF d1).2).length ≤ (mW (cwF d1).2).length)) (some (rt (AV.agg [sl d0.1.2.isEmpty (dropQ d0.1.2 d0.2.1 d0.2.2), .slc false (List.take (mW (cwF d1).2).length (List.drop 0 (mW (cwF d1).2)))]))) none)
theorem dgive_w (d_Leases_x : Bool) (d_Leases : List Lease_T) (d_Line_x : Bool) (d_Line : List Wait_T) (client : Int) (file : Int) : unitQ Try.prog cfg Dg2 LP0 false 12 (groupA dgive_sh (Tu.mk dgive_fs ((d_Leases_x, d_Leases), (d_Line_x, d_Line), client, file))) [] = dgive_r d_Leases_x d_Leases d_Line_x d_Line client file := by kernel_rfl

noncomputable def dgiveS : FS := ⟨dgive_sh, dgive_fs, dgive_rsh, dgive_rfs, fun d => d.1.2.length ≤ 100000 ∧ d.2.1.2.length ≤ 100000, fun d => ((d.1.2.isEmpty, dropQ d.1.2 d.2.2.1 d.2.2.2), (d.2.1.2.isEmpty, d.2.1.2)), none⟩
theorem dgiveO : ∀ d : Tu dgiveS.fs, dgiveS.pre d → CallOk Try.prog 12 (dgiveS.args d) [] (dgiveS.ret d) := by
 rintro ⟨⟨lx, L⟩, ⟨wx, W⟩, c, f⟩ ⟨h1, h2⟩
 refine CallOk.unit (fnOk Dg2_ok 21) rfl fLoops_none (o := false) (by show 0 ≤ 1000; decide) ((dgive_w lx L wx W c f).trans ?_)
 show _ = some (dgiveS.out ((L.isEmpty, dropQ L c f), (W.isEmpty, W)))
 unfold dgive_r
 refine oK_fsq (Q := (· = _)) dropS ((lx, L), c, f) h1 ?_
 refine oK_fsq (Q := (· = _)) cwS (wx, W) h2 ?_
 have e : (cwF (wx, W)).2 = W := rfl
 rw [e]
 cases W with
 | nil => rfl
 | cons a r =>
  refine bK_fq (Q := (· = _)) rfl (bK_tq (Q := (· = _)) (by simp) ?_)
  rw [List.drop_zero, List.take_length]
  rfl
abbrev AskR : Type := (Bool × List Lease_T) × (Bool × List Wait_T) × Bool × (Bool × List Int) × Int
def askQ (L : List Lease_T) (W : List Wait_T) (now : Int) (w : Wait_T) : AskR :=
 if mayQd (pruneQ L now) W now w = true then ((false, letsL (pruneQ L now) now w), (W.isEmpty, letsW W w), true, (true, []), 0)
 else if (putQw W w).2 = false then ((L.isEmpty, pruneQ L now), (W.isEmpty, W), false, (true, []), 3)
 else ((L.isEmpty, pruneQ L now), (false, (putQw W w).1), false, ((csF (pruneQ L now) now w.1 w.2.2.1 w.2.2.2).isEmpty, csF (pruneQ L now) now w.1 w.2.2.1 w.2.2.2), 0)
noncomputable def daskS : FS := ⟨dask_sh, dask_fs, dask_rsh, dask_rfs, fun d => (d.1.2.length ≤ 100000 ∧ d.2.1.2.length ≤ 100000) ∧ (0 ≤ d.2.2.1 ∧ d.2.2.1 ≤ 1000000), fun d => askQ d.1.2 d.2.1.2 d.2.2.1 d.2.2.2, none⟩
theorem daskO : ∀ d : Tu daskS.fs, daskS.pre d → CallOk Try.prog 17 (daskS.args d) [] (daskS.ret d) := by
 rintro ⟨⟨lx, L⟩, ⟨wx, W⟩, now, w⟩ ⟨⟨h1, h2⟩, h3⟩
 have hp : (pruneQ L now).length ≤ 100000 := Nat.le_trans (List.length_filter_le _ _) h1
 refine CallOk.unit (fnOk De5_ok 21) rfl fLoops_none (o := false) (by show 0 ≤ 1000; decide) ((dask_w lx L wx W now w.1 w.2.1 w.2.2.1 w.2.2.2).trans ?_)
 show _ = some (daskS.out (askQ L W now w))
 have e0 : askQ L W now w = if mayQd (pruneQ L now) W now w = true then ((false, letsL (pruneQ L now) now w), (W.isEmpty, letsW W w), true, (true, []), 0)
  else if (putQw W w).2 = false then ((L.isEmpty, pruneQ L now), (W.isEmpty, W), false, (true, []), 3)
  else ((L.isEmpty, pruneQ L now), (false, (putQw W w).1), false, ((csF (pruneQ L now) now w.1 w.2.2.1 w.2.2.2).isEmpty, csF (pruneQ L now) now w.1 w.2.2.1 w.2.2.2), 0) := rfl
 rw [e0]
 unfold dask_r
 refine oK_fsq (Q := (· = _)) prunedS ((lx, L), (wx, W), now) ⟨h1, h2⟩ ?_
 refine oK_fsq (Q := (· = _)) dmayS ((L.isEmpty, pruneQ L now), (W.isEmpty, W), now, w) ⟨hp, h2⟩ ?_
 dsimp only
 cases hm : mayQd (pruneQ L now) W now w with
 | true =>
  rw [if_pos rfl]
  refine bK_tq (Q := (· = _)) rfl ?_
  exact oK_fsq (Q := (· = _)) dletsS ((L.isEmpty, pruneQ L now), (W.isEmpty, W), now, w) ⟨⟨hp, h2⟩, h3⟩ rfl
 | false =>
  rw [if_neg (by simp)]
  refine bK_fq (Q := (· = _)) rfl ?_
  refine oK_fsq (Q := (· = _)) putSw ((W.isEmpty, W), w) h2 ?_
  dsimp only
  cases hr : (putQw W w).2 with
  | false =>
   rw [if_pos rfl]
   exact bK_tq (Q := (· = _)) rfl rfl
  | true =>
   rw [if_neg (by simp)]
   refine bK_fq (Q := (· = _)) rfl ?_
   exact oK_fsq (Q := (· = _)) dclashS ((L.isEmpty, pruneQ L now), (false, (putQw W w).1), now, w) hp rfl

end Go.Proofs.Ytkanmigbbpppnaa
