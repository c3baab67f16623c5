/- A part of the proof: contracts of functions. -/
import Derived.Test.YtkanmigbbpppnaaH4
import Derived.Test.YtkanmigbbpppnaaAbAny

set_option linter.unusedVariables false
set_option linter.unusedSimpArgs false
set_option maxRecDepth 100000
namespace Go.Proofs.Ytkanmigbbpppnaa
open Go Go.Ab
abbrev Row4 : Type := Int × Int × Int × Int
abbrev Row4_fs : List Lf := [.fi .u8, .fi .u8, .fi .u8, .fi .u8]
noncomputable def Sd1 : PKs := PKz.add 42 slS.pk
noncomputable def Sd2 : PKs := Sd1.add 16 swSw.pk
theorem Sd1_ok : PKsOk Try.prog Sd1 := PKsOk.anyF PKz_ok 42 slS slO
theorem Sd2_ok : PKsOk Try.prog Sd2 := PKsOk.anyF Sd1_ok 16 swSw swOw
abbrev sdk_id : Nat := 20
abbrev sdk_sh : Shp := [some 2, some 2]
abbrev sdk_fs : List Lf := [.fl true Lease_tfs, .fl true Wait_tfs, .fl true Lease_tfs, .fl true Wait_tfs]
abbrev sdk_rsh : Shp := [none]
abbrev sdk_rfs : List Lf := [.fb]
noncomputable def sdk_r (a_Leases_x : Bool) (a_Leases : List Lease_T) (a_Line_x : Bool) (a_Line : List Wait_T) (b_Leases_x : Bool) (b_Leases : List Lease_T) (b_Line_x : Bool) (b_Line : List Wait_T) : Option Ret :=
 oK (slS.dec [sl a_Leases_x a_Leases, sl b_Leases_x b_Leases] []) fun (d0 : LW × Bool × List Wait_T) => bK (slQ d0.1.2 d0.2.2) (oK (swSw.dec [sl a_Line_x a_Line, sl b_Line_x b_Line] []) fun (d1 : LW × Bool × List Wait_T) => some (rt (.bool (swQw d1.1.2 d1.2.2)))) (some (rt (.bool false)))
theorem sdk_w (a_Leases_x : Bool) (a_Leases : List Lease_T) (a_Line_x : Bool) (a_Line : List Wait_T) (b_Leases_x : Bool) (b_Leases : List Lease_T) (b_Line_x : Bool) (b_Line : List Wait_T) : unitQ Try.prog cfg Sd2 LP0 false 20 (groupA sdk_sh (Tu.mk sdk_fs ((a_Leases_x, a_Leases), (a_Line_x, a_Line), (b_Leases_x, b_Leases), (b_Line_x, b_Line)))) [] = sdk_r a_Leases_x a_Leases a_Line_x a_Line b_Leases_x b_Leases b_Line_x b_Line := by kernel_rfl

noncomputable def sdkS : FS := ⟨sdk_sh, sdk_fs, sdk_rsh, sdk_rfs, fun d => d.1.2.length ≤ 100000 ∧ d.2.1.2.length ≤ 100000, fun d => decide (d.1.2 = d.2.2.1.2 ∧ d.2.1.2 = d.2.2.2.2), none⟩
noncomputable def Al1 : PKs := Nd4.add 12 dgiveS.pk
noncomputable def Al2 : PKs := Al1.add 14 drunS.pk
noncomputable def Al3 : PKs := Al2.add 17 daskS.pk
noncomputable def Al4 : PKs := Al3.add 16 swSw.pk
noncomputable def Al5 : PKs := Al4.add 19 saS.pk
noncomputable def Al6 : PKs := Al5.add 20 sdkS.pk
theorem sdkO : ∀ d : Tu sdkS.fs, sdkS.pre d → CallOk Try.prog 20 (sdkS.args d) [] (sdkS.ret d) := by
 rintro ⟨⟨lx, L⟩, ⟨wx, W⟩, ⟨lx', L'⟩, wx', W'⟩ ⟨h1, h2⟩
 refine CallOk.unit (fnOk Sd2_ok 21) rfl fLoops_none (o := false) (by show 0 ≤ 1000; decide) ((sdk_w lx L wx W lx' L' wx' W').trans ?_)
 show _ = some (sdkS.out (decide (L = L' ∧ W = W')))
 unfold sdk_r
 refine oK_fsq (Q := (· = _)) slS ((lx, L), (lx', L')) h1 ?_
 by_cases e : L = L'
 ·refine bK_tq (Q := (· = _)) (by show slQ L L' = true; exact decide_eq_true e) ?_
  refine oK_fsq (Q := (· = _)) swSw ((wx, W), (wx', W')) h2 ?_
  show some _ = _
  have : swQw W W' = decide (L = L' ∧ W = W') := by show decide (W = W') = _; simp [e]
  dsimp only
  rw [this]
  rfl
 ·refine bK_fq (Q := (· = _)) (by show slQ L L' = false; exact decide_eq_false e) ?_
  rw [decide_eq_false (fun h => e h.1)]
  rfl
theorem Al1_ok : PKsOk Try.prog Al1 := PKsOk.anyF Nd4_ok 12 dgiveS dgiveO
theorem Al2_ok : PKsOk Try.prog Al2 := PKsOk.anyF Al1_ok 14 drunS drunO
theorem Al3_ok : PKsOk Try.prog Al3 := PKsOk.anyF Al2_ok 17 daskS daskO
theorem Al4_ok : PKsOk Try.prog Al4 := PKsOk.anyF Al3_ok 16 swSw swOw
theorem Al5_ok : PKsOk Try.prog Al5 := PKsOk.anyF Al4_ok 19 saS saO
theorem Al6_ok : PKsOk Try.prog Al6 := PKsOk.anyF Al5_ok 20 sdkS sdkO

end Go.Proofs.Ytkanmigbbpppnaa
