/- A part of the proof: contracts of functions. -/
import Derived.Test.YtkanmigbbpppnaaX2
import Derived.Test.YtkanmigbbpppnaaAbAny

set_option linter.unusedVariables false
set_option linter.unusedSimpArgs false
set_option maxRecDepth 100000
namespace Go.Proofs.Ytkanmigbbpppnaa
open Go Go.Ab
noncomputable def Ra1 : PKs := PKz.add 39 crefS.pk
theorem Ra1_ok : PKsOk Try.prog Ra1 := PKsOk.anyF PKz_ok 39 crefS crefO
noncomputable def Ra2 : PKs := Ra1.add 21 aheadRSw.pk
theorem Ra2_ok : PKsOk Try.prog Ra2 := PKsOk.anyF Ra1_ok 21 aheadRSw aheadROw
abbrev dfree_id : Nat := 37
abbrev dfree_sh : Shp := [some 2, none, some 4]
abbrev dfree_fs : List Lf := [.fl true Lease_tfs, .fl true Wait_tfs, .fi .i64, .fi .i64, .fi .i64, .fi .i64, .fi .i64]
abbrev dfree_rsh : Shp := [none]
abbrev dfree_rfs : List Lf := [.fb]
noncomputable def dfree_r (d_Leases_x : Bool) (d_Leases : List Lease_T) (d_Line_x : Bool) (d_Line : List Wait_T) (now : Int) (w_Client : Int) (w_Seq : Int) (w_File : Int) (w_Mode : Int) : Option Ret :=
 oK (crefS.dec [sl d_Leases_x d_Leases, i6 now, i6 w_Client, i6 w_File, i6 w_Mode] []) fun (d0 : LW × Int × Int × Int × Int) => bK (decide ((↑(mi (rcF d0.1.2 d0.2.1 d0.2.2.1 d0.2.2.2.1 d0.2.2.2.2)).length : Int) = 0)) (oK (aheadRSw.dec [sl d_Line_x d_Line, i6 w_Client, i6 w_File] []) fun (d1 : LW × Int × Int) => some (rt (.bool !aheadQw d1))) (some (rt (.bool false)))
theorem dfree_w (d_Leases_x : Bool) (d_Leases : List Lease_T) (d_Line_x : Bool) (d_Line : List Wait_T) (now : Int) (w_Client : Int) (w_Seq : Int) (w_File : Int) (w_Mode : Int) : unitQ Try.prog cfg Ra2 LP0 false 37 (groupA dfree_sh (Tu.mk dfree_fs ((d_Leases_x, d_Leases), (d_Line_x, d_Line), now, w_Client, w_Seq, w_File, w_Mode))) [] = dfree_r d_Leases_x d_Leases d_Line_x d_Line now w_Client w_Seq w_File w_Mode := by kernel_rfl

noncomputable def Rb1 : PKs := PKz.add 53 grefoS.pk
theorem Rb1_ok : PKsOk Try.prog Rb1 := PKsOk.anyF PKz_ok 53 grefoS grefoO
noncomputable def Rb2 : PKs := Rb1.add 55 dropRSw.pk
theorem Rb2_ok : PKsOk Try.prog Rb2 := PKsOk.anyF Rb1_ok 55 dropRSw dropROw
abbrev dlends_id : Nat := 38
abbrev dlends_sh : Shp := [some 2, none, some 4]
abbrev dlends_fs : List Lf := [.fl true Lease_tfs, .fl true Wait_tfs, .fi .i64, .fi .i64, .fi .i64, .fi .i64, .fi .i64]
abbrev dlends_rsh : Shp := [some 2]
abbrev dlends_rfs : List Lf := [.fl true Lease_tfs, .fl true Wait_tfs]
noncomputable def dlends_r (d_Leases_x : Bool) (d_Leases : List Lease_T) (d_Line_x : Bool) (d_Line : List Wait_T) (now : Int) (w_Client : Int) (w_Seq : Int) (w_File : Int) (w_Mode : Int) : Option Ret :=
 bK (decide (9223372036854775747 < now)) (oK (grefoS.dec [sl d_Leases_x d_Leases, AV.agg [i6 w_Client, i6 w_File, i6 w_Mode, i6 9223372036854775807]] []) fun (d0 : LW × Int × Int × Int × Int) => bK (mW (grefQ d0.1.2 d0.2)).isEmpty (oK (dropRSw.dec [sl d_Line_x d_Line, i6 w_Client] []) fun (d1 : LW × Int) => some (rt (AV.agg [.slc true [], .slc (dropFw d1.1.2 d1.2).isEmpty (mW (dropFw d1.1.2 d1.2))]))) (bK (decide (0 + (mW (grefQ d0.1.2 d0.2)).length ≤ (mW (grefQ d0.1.2 d0.2)).length)) (oK (dropRSw.dec [sl d_Line_x d_Line, i6 w_Client] []) fun (d2 : LW × Int) => some (rt (AV.agg [.slc false (List.take (mW (grefQ d0.1.2 d0.2)).length (List.drop 0 (mW (grefQ d0.1.2 d0.2)))), .slc (dropFw d2.1.2 d2.2).isEmpty (mW (dropFw d2.1.2 d2.2))]))) none))
 (oK (grefoS.dec [sl d_Leases_x d_Leases, AV.agg [i6 w_Client, i6 w_File, i6 w_Mode, i6 (IntKind.i64.wrap (now + 60))]] []) fun (d3 : LW × Int × Int × Int × Int) => bK (mW (grefQ d3.1.2 d3.2)).isEmpty (oK (dropRSw.dec [sl d_Line_x d_Line, i6 w_Client] []) fun (d4 : LW × Int) => some (rt (AV.agg [.slc true [], .slc (dropFw d4.1.2 d4.2).isEmpty (mW (dropFw d4.1.2 d4.2))]))) (bK (decide (0 + (mW (grefQ d3.1.2 d3.2)).length ≤ (mW (grefQ d3.1.2 d3.2)).length)) (oK (dropRSw.dec [sl d_Line_x d_Line, i6 w_Client] []) fun (d5 : LW × Int) => some (rt (AV.agg [.slc false (List.take (mW (grefQ d3.1.2 d3.2)).length (List.drop 0 (mW (grefQ d3.1.2 d3.2)))), .slc (dropFw d5.1.2 d5.2).isEmpty (mW (dropFw d5.1.2 d5.2))]))) none))
theorem dlends_w (d_Leases_x : Bool) (d_Leases : List Lease_T) (d_Line_x : Bool) (d_Line : List Wait_T) (now : Int) (w_Client : Int) (w_Seq : Int) (w_File : Int) (w_Mode : Int) : unitQ Try.prog cfg Rb2 LP0 false 38 (groupA dlends_sh (Tu.mk dlends_fs ((d_Leases_x, d_Leases), (d_Line_x, d_Line), now, w_Client, w_Seq, w_File, w_Mode))) [] = dlends_r d_Leases_x d_Leases d_Line_x d_Line now w_Client w_Seq w_File w_Mode := by kernel_rfl

def freeQ (L : List Lease_T) (W : List Wait_T) (now : Int) (w : Wait_T) : Bool := decide (rcF L now w.1 w.2.2.1 w.2.2.2 = []) && !aheadNw w.1 w.2.2.1 W
noncomputable def dfreeS : FS := ⟨dfree_sh, dfree_fs, dfree_rsh, dfree_rfs, fun d => d.1.2.length ≤ 100000 ∧ d.2.1.2.length ≤ 100000, fun d => freeQ d.1.2 d.2.1.2 d.2.2.1 d.2.2.2, none⟩
theorem dfreeO : ∀ d : Tu dfreeS.fs, dfreeS.pre d → CallOk Try.prog 37 (dfreeS.args d) [] (dfreeS.ret d) := by
 rintro ⟨⟨lx, L⟩, ⟨wx, W⟩, now, w⟩ ⟨h1, h2⟩
 refine CallOk.unit (fnOk Ra2_ok 21) rfl fLoops_none (o := false) (by show 0 ≤ 1000; decide) ((dfree_w lx L wx W now w.1 w.2.1 w.2.2.1 w.2.2.2).trans ?_)
 show _ = some (dfreeS.out (decide (rcF L now w.1 w.2.2.1 w.2.2.2 = []) && !aheadNw w.1 w.2.2.1 W))
 unfold dfree_r
 refine oK_fsq (Q := (· = _)) crefS ((lx, L), now, w.1, w.2.2.1, w.2.2.2) h1 ?_
 dsimp only
 generalize rcF L now w.1 w.2.2.1 w.2.2.2 = q
 cases q with
 | nil =>
  refine bK_tq (Q := (· = _)) rfl ?_
  exact oK_fsq (Q := (· = _)) aheadRSw ((wx, W), w.1, w.2.2.1) h2 rfl
 | cons a r => exact bK_fq (Q := (· = _)) (decide_eq_false (by rw [List.length_map, List.length_cons]; omega)) rfl
def lendL (L : List Lease_T) (now : Int) (w : Wait_T) : List Lease_T := grefQ L (w.1, w.2.2.1, w.2.2.2, now + 60)
def lendP (d : Tu dlends_fs) : Prop := (d.1.2.length ≤ 100000 ∧ d.2.1.2.length ≤ 100000) ∧ (0 ≤ d.2.2.1 ∧ d.2.2.1 ≤ (1000000 : Int))
noncomputable def dlendsS : FS := ⟨dlends_sh, dlends_fs, dlends_rsh, dlends_rfs, lendP, fun d => ((false, lendL d.1.2 d.2.2.1 d.2.2.2), ((dropFw d.2.1.2 d.2.2.2.1).isEmpty, dropFw d.2.1.2 d.2.2.2.1)), none⟩
theorem dlendsO : ∀ d : Tu dlendsS.fs, dlendsS.pre d → CallOk Try.prog 38 (dlendsS.args d) [] (dlendsS.ret d) := by
 rintro ⟨⟨lx, L⟩, ⟨wx, W⟩, now, w⟩ ⟨⟨h1, h2⟩, h3, h4⟩
 have h3 : @LE.le Int _ 0 now := h3
 have h4 : @LE.le Int _ now 1000000 := h4
 refine CallOk.unit (fnOk Rb2_ok 21) rfl fLoops_none (o := false) (by show 0 ≤ 1000; decide) ((dlends_w lx L wx W now w.1 w.2.1 w.2.2.1 w.2.2.2).trans ?_)
 show _ = some (dlendsS.out ((false, grefQ L (w.1, w.2.2.1, w.2.2.2, now + 60)), ((dropFw W w.1).isEmpty, dropFw W w.1)))
 unfold dlends_r
 rw [w64 (n := now + 60) (by omega) (by omega)]
 refine bK_fq (Q := (· = _)) (decide_eq_false (by omega)) ?_
 refine oK_fsq (Q := (· = _)) grefoS ((lx, L), (w.1, w.2.2.1, w.2.2.2, now + 60)) h1 ?_
 dsimp only
 have hne : grefQ L (w.1, w.2.2.1, w.2.2.2, now + 60) ≠ [] := (gref_len _ _).2
 generalize grefQ L (w.1, w.2.2.1, w.2.2.2, now + 60) = G at hne
 cases G with
 | nil => exact absurd rfl hne
 | cons a r =>
  refine bK_fq (Q := (· = _)) rfl (bK_tq (Q := (· = _)) (by simp) ?_)
  refine oK_fsq (Q := (· = _)) dropRSw ((wx, W), w.1) h2 ?_
  rw [List.drop_zero, List.take_length]
  rfl
noncomputable def Rc1 : PKs := PKz.add 36 prefS.pk
noncomputable def Rc2 : PKs := Rc1.add 37 dfreeS.pk
noncomputable def Rc3 : PKs := Rc2.add 38 dlendsS.pk
noncomputable def Rc4 : PKs := Rc3.add 39 crefS.pk
noncomputable def Rc5 : PKs := Rc4.add 41 putRSw.pk
theorem Rc1_ok : PKsOk Try.prog Rc1 := PKsOk.anyF PKz_ok 36 prefS prefO
theorem Rc2_ok : PKsOk Try.prog Rc2 := PKsOk.anyF Rc1_ok 37 dfreeS dfreeO
theorem Rc3_ok : PKsOk Try.prog Rc3 := PKsOk.anyF Rc2_ok 38 dlendsS dlendsO
theorem Rc4_ok : PKsOk Try.prog Rc4 := PKsOk.anyF Rc3_ok 39 crefS crefO
theorem Rc5_ok : PKsOk Try.prog Rc5 := PKsOk.anyF Rc4_ok 41 putRSw putROw

end Go.Proofs.Ytkanmigbbpppnaa
