/- A part of the proof: contracts of functions. -/
import Derived.Test.YtkanmigbbpppnaaP
import Derived.Test.YtkanmigbbpppnaaAbAny

set_option linter.unusedVariables false
set_option linter.unusedSimpArgs false
set_option maxRecDepth 100000
namespace Go.Proofs.Ytkanmigbbpppnaa
open Go Go.Ab
abbrev order_id : Nat := 60
abbrev order_sh : Shp := [some 4, some 4]
abbrev order_fs : List Lf := [.fi .i64, .fi .i64, .fi .i64, .fi .i64, .fi .i64, .fi .i64, .fi .i64, .fi .i64]
abbrev order_rsh : Shp := [none]
abbrev order_rfs : List Lf := [.fi .i64]
noncomputable def order_r (a_Client : Int) (a_File : Int) (a_Mode : Int) (a_Until : Int) (b_Client : Int) (b_File : Int) (b_Mode : Int) (b_Until : Int) : Option Ret :=
 bK (!decide (a_File = a_File)) (bK (!decide (b_File = b_File)) (bK (!decide (a_Client = a_Client)) (bK (!decide (b_Client = b_Client)) (some (rt (i6 0))) (some (rt (i6 (-1))))) (bK (!decide (b_Client = b_Client)) (some (rt (i6 1))) (bK (decide (a_Client < b_Client)) (some (rt (i6 (-1)))) (bK (decide (b_Client < a_Client)) (some (rt (i6 1))) (some (rt (i6 0))))))) (bK (!decide (a_Client = a_Client)) (bK (!decide (b_Client = b_Client)) (some (rt (i6 (-1)))) (some (rt (i6 (-1))))) (bK (!decide (b_Client = b_Client)) (some (rt (i6 (-1)))) (bK (decide (a_Client < b_Client)) (some (rt (i6 (-1)))) (bK (decide (b_Client < a_Client)) (some (rt (i6 (-1)))) (some (rt (i6 (-1)))))))))
 (bK (!decide (b_File = b_File)) (bK (!decide (a_Client = a_Client)) (bK (!decide (b_Client = b_Client)) (some (rt (i6 1))) (some (rt (i6 1)))) (bK (!decide (b_Client = b_Client)) (some (rt (i6 1))) (bK (decide (a_Client < b_Client)) (some (rt (i6 1))) (bK (decide (b_Client < a_Client)) (some (rt (i6 1))) (some (rt (i6 1)))))))
 (bK (decide (a_File < b_File)) (bK (!decide (a_Client = a_Client)) (bK (!decide (b_Client = b_Client)) (some (rt (i6 (-1)))) (some (rt (i6 (-1))))) (bK (!decide (b_Client = b_Client)) (some (rt (i6 (-1)))) (bK (decide (a_Client < b_Client)) (some (rt (i6 (-1)))) (bK (decide (b_Client < a_Client)) (some (rt (i6 (-1)))) (some (rt (i6 (-1))))))))
 (bK (decide (b_File < a_File)) (bK (!decide (a_Client = a_Client)) (bK (!decide (b_Client = b_Client)) (some (rt (i6 1))) (some (rt (i6 1)))) (bK (!decide (b_Client = b_Client)) (some (rt (i6 1))) (bK (decide (a_Client < b_Client)) (some (rt (i6 1))) (bK (decide (b_Client < a_Client)) (some (rt (i6 1))) (some (rt (i6 1))))))) (bK (!decide (a_Client = a_Client)) (bK (!decide (b_Client = b_Client)) (some (rt (i6 0))) (some (rt (i6 (-1))))) (bK (!decide (b_Client = b_Client)) (some (rt (i6 1))) (bK (decide (a_Client < b_Client)) (some (rt (i6 (-1)))) (bK (decide (b_Client < a_Client)) (some (rt (i6 1))) (some (rt (i6 0))))))))))
theorem order_w (a_Client : Int) (a_File : Int) (a_Mode : Int) (a_Until : Int) (b_Client : Int) (b_File : Int) (b_Mode : Int) (b_Until : Int) : unitQ Try.prog cfg PKz LP0 false 60 (groupA order_sh (Tu.mk order_fs (a_Client, a_File, a_Mode, a_Until, b_Client, b_File, b_Mode, b_Until))) [] = order_r a_Client a_File a_Mode a_Until b_Client b_File b_Mode b_Until := by kernel_rfl

noncomputable def bs_h (x : Bool) (l : List Lease_T) (t : Lease_T) : Option (Ex × St) := headK Try.prog cfg PKz LP0 59 0 [.slc x (l.map (mkV true Lease_tfs)), .agg (Tu.mk Lease_tfs t), .fn 60 [] []] []
noncomputable def bs_h_r (x : Bool) (l : List Lease_T) (t : Lease_T) : Option (Ex × St) :=
 some (.exit 999999, (sf [(0, sl x l), (2, .fn 60 [] []), (4, pt 64), (8, i6 (↑(mW l).length : Int)), (9, i6 0), (10, i6 (↑(mW l).length : Int))] [(64, (bx [i6 t.1, i6 t.2.1, i6 t.2.2.1, i6 t.2.2.2]))]))
theorem bs_h_w (x : Bool) (l : List Lease_T) (t : Lease_T) : bs_h x l t = bs_h_r x l t := by kernel_rfl

def ordF (a b : Lease_T) : Int := if a.2.1 < b.2.1 then -1 else if b.2.1 < a.2.1 then 1 else if a.1 < b.1 then -1 else if b.1 < a.1 then 1 else 0
theorem bK_F {α : Type} (x y : Option α) : bK false x y = y := rfl
theorem bK_T {α : Type} (x y : Option α) : bK true x y = x := rfl
theorem neN (x : Int) : (!decide (x = x)) = false := by simp
noncomputable def orderS : FS := ⟨order_sh, order_fs, order_rsh, order_rfs, fun _ => True, fun d => ordF (d.1, d.2.1, d.2.2.1, d.2.2.2.1) d.2.2.2.2, none⟩
theorem order_v (a_Client : Int) (a_File : Int) (a_Mode : Int) (a_Until : Int) (b_Client : Int) (b_File : Int) (b_Mode : Int) (b_Until : Int) : order_r a_Client a_File a_Mode a_Until b_Client b_File b_Mode b_Until = some (orderS.ret (a_Client, a_File, a_Mode, a_Until, b_Client, b_File, b_Mode, b_Until)) := by
 show _ = some (orderS.out (ordF (a_Client, a_File, a_Mode, a_Until) (b_Client, b_File, b_Mode, b_Until)))
 unfold order_r ordF
 simp only [neN, bK_F]
 by_cases h1 : a_File < b_File <;> by_cases h2 : b_File < a_File <;> by_cases h3 : a_Client < b_Client <;> by_cases h4 : b_Client < a_Client <;>
  simp only [h1, h2, h3, h4, decide_true, decide_false, bK_T, bK_F, if_true, if_false] <;> first | rfl | omega
theorem orderO : ∀ d : Tu orderS.fs, orderS.pre d → CallOk Try.prog 60 (orderS.args d) [] (orderS.ret d)
 | (a_Client, a_File, a_Mode, a_Until, b_Client, b_File, b_Mode, b_Until), _ => CallOk.unit (fnOk PKz_ok 21) rfl fLoops_none (o := false) (by show 0 ≤ 1000; decide) ((order_w a_Client a_File a_Mode a_Until b_Client b_File b_Mode b_Until).trans (order_v a_Client a_File a_Mode a_Until b_Client b_File b_Mode b_Until))

end Go.Proofs.Ytkanmigbbpppnaa
