/- A part of the proof: contracts of functions. -/
import Derived.Test.YtkanmigbbpppnaaE3
import Derived.Test.YtkanmigbbpppnaaAbAny

set_option linter.unusedVariables false
set_option linter.unusedSimpArgs false
set_option maxRecDepth 100000
namespace Go.Proofs.Ytkanmigbbpppnaa
open Go Go.Ab
abbrev over_id : Nat := 24
abbrev over_sh : Shp := []
abbrev over_fs : List Lf := []
abbrev over_bs : List Lf := [.fl false [.fi .u8], .fi .i64]
abbrev over_rsh : Shp := [none]
abbrev over_rfs : List Lf := [.fb]
noncomputable def over_r (p_l_x : Bool) (p_l : List Int) (p_n : Int) : Option Ret :=
 some { pan := false, res := .bool (decide ((↑(List.map (mkV false [Lf.fi .u8]) p_l).length : Int) ≤ p_n)), out := [(bx [.slc p_l_x (List.map (mkV false [Lf.fi .u8]) p_l), i6 p_n])], new := [] }
theorem over_w (p_l_x : Bool) (p_l : List Int) (p_n : Int) : unitQ Try.prog cfg PK1 LP0 false 24 (.ptr outBase 0 0 0 :: groupA over_sh (Tu.mk over_fs ())) [boxB (Tu.mk over_bs ((p_l_x, p_l), p_n))] = over_r p_l_x p_l p_n := by kernel_rfl

def overS : MS := ⟨over_bs, over_sh, over_fs, over_rsh, over_rfs, fun _ _ => True, fun b _ => (b, decide ((b.1.2.length : Int) ≤ b.2)), none⟩
theorem over_v (p_l_x : Bool) (p_l : List Int) (p_n : Int) (h : True) : over_r p_l_x p_l p_n = some (overS.ret ((p_l_x, p_l), p_n) ()) := by
 unfold over_r
 rw [List.length_map]
 rfl
theorem over_ok : ∀ (b : Tu over_bs) (d : Tu over_fs), overS.pre b d → unitQ Try.prog cfg PK1 LP0 false 24 (overS.args d) (overS.out0 b) = some (overS.ret b d)
 | ((p_l_x, p_l), p_n), (), h => (over_w p_l_x p_l p_n).trans (over_v p_l_x p_l p_n h)
noncomputable def PK2 : PKs := PK1.add 24 overS.pk
theorem PK2_ok : PKsOk Try.prog PK2 := PKsOk.ms (cfg := cfg) PK1_ok (fnOk PK1_ok 21) 24 rfl LP0 fLoops_none overS over_ok

noncomputable def Md1 : PKs := PK2.add 13 girefS.pk
theorem Md1_ok : PKsOk Try.prog Md1 := PKsOk.anyF PK2_ok 13 girefS girefO
noncomputable def Md2 : PKs := Md1.add 15 rrunS.pk
theorem Md2_ok : PKsOk Try.prog Md2 := PKsOk.anyF Md1_ok 15 rrunS rrunO
noncomputable def Md3 : PKs := Md2.add 18 arefS.pk
theorem Md3_ok : PKsOk Try.prog Md3 := PKsOk.anyF Md2_ok 18 arefS arefO
noncomputable def md_h (b : Picks_T) (most : Int) : Option (Ex × St) := headK Try.prog cfg Md3 LP0 11 0 [.ptr outBase 0 0 0, .int .i64 most] [boxB (Tu.mk num_bs b)]
noncomputable def md_h_r (b : Picks_T) (most : Int) : Option (Ex × St) :=
 some (.exit 999999, (sf [(0, pt 1000000), (1, i6 most), (4, pt 64), (6, pt 96), (7, i6 0), (8, i6 0)] [(64, (bx [.slc true [], .slc true []])), (96, (bx [.slc true [], .slc true []])), (1000000, (bx [.slc b.1.1 (List.map (mkV false [Lf.fi .u8]) b.1.2), i6 b.2]))]))
theorem md_h_w (b : Picks_T) (most : Int) : md_h b most = md_h_r b most := by kernel_rfl

end Go.Proofs.Ytkanmigbbpppnaa
