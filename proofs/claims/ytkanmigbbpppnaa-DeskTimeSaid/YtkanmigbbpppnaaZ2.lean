/- A part of the proof: contracts of functions. -/
import Derived.Test.YtkanmigbbpppnaaY2
import Derived.Test.YtkanmigbbpppnaaAbAny

set_option linter.unusedVariables false
set_option linter.unusedSimpArgs false
set_option maxRecDepth 100000
namespace Go.Proofs.Ytkanmigbbpppnaa
open Go Go.Ab
abbrev aref_id : Nat := 18
abbrev aref_sh : Shp := [some 2, none, some 4]
abbrev aref_fs : List Lf := [.fl true Lease_tfs, .fl true Wait_tfs, .fi .i64, .fi .i64, .fi .i64, .fi .i64, .fi .i64]
abbrev aref_rsh : Shp := [some 2, none, none, none]
abbrev aref_rfs : List Lf := [.fl true Lease_tfs, .fl true Wait_tfs, .fb, .fl false [.fi .i64], .fi .i64]
noncomputable def aref_r (d_Leases_x : Bool) (d_Leases : List Lease_T) (d_Line_x : Bool) (d_Line : List Wait_T) (now : Int) (w_Client : Int) (w_Seq : Int) (w_File : Int) (w_Mode : Int) : Option Ret :=
 oK (prefS.dec [sl d_Leases_x d_Leases, i6 now] []) fun (d0 : LW × Int) =>
 oK (dfreeS.dec [AV.agg [.slc (pruneQ d0.1.2 d0.2).isEmpty (mW (pruneQ d0.1.2 d0.2)), sl d_Line_x d_Line], i6 now, AV.agg [i6 w_Client, i6 w_Seq, i6 w_File, i6 w_Mode]] []) fun (d1 : LW × LW × Int × Int × Int × Int × Int) =>
 bK (freeQ d1.1.2 d1.2.1.2 d1.2.2.1 d1.2.2.2) (oK (dlendsS.dec [AV.agg [.slc (pruneQ d0.1.2 d0.2).isEmpty (mW (pruneQ d0.1.2 d0.2)), sl d_Line_x d_Line], i6 now, AV.agg [i6 w_Client, i6 w_Seq, i6 w_File, i6 w_Mode]] []) fun (d2 : LW × LW × Int × Int × Int × Int × Int) => some (rt (.tup [AV.agg [sl false (lendL d2.1.2 d2.2.2.1 d2.2.2.2), .slc (dropFw d2.2.1.2 d2.2.2.2.1).isEmpty (mW (dropFw d2.2.1.2 d2.2.2.2.1))], .bool true, .slc true [], i6 0])))
 (oK (putRSw.dec [sl d_Line_x d_Line, AV.agg [i6 w_Client, i6 w_Seq, i6 w_File, i6 w_Mode]] []) fun (d3 : LW × Int × Int × Int × Int) => bK (!(putRQw d3.1.2 d3.2).2) (some (rt (.tup [AV.agg [.slc (pruneQ d0.1.2 d0.2).isEmpty (mW (pruneQ d0.1.2 d0.2)), sl d_Line_x d_Line], .bool false, .slc true [], i6 3]))) (oK (crefS.dec [.slc (pruneQ d0.1.2 d0.2).isEmpty (mW (pruneQ d0.1.2 d0.2)), i6 now, i6 w_Client, i6 w_File, i6 w_Mode] []) fun (d4 : LW × Int × Int × Int × Int) => some (rt (.tup [AV.agg [.slc (pruneQ d0.1.2 d0.2).isEmpty (mW (pruneQ d0.1.2 d0.2)), .slc (putRXw d3.1.1 d3.1.2 d3.2) (mW (putRQw d3.1.2 d3.2).1)], .bool false, .slc (rcF d4.1.2 d4.2.1 d4.2.2.1 d4.2.2.2.1 d4.2.2.2.2).isEmpty (mi (rcF d4.1.2 d4.2.1 d4.2.2.1 d4.2.2.2.1 d4.2.2.2.2)), i6 0]))))
theorem aref_w (d_Leases_x : Bool) (d_Leases : List Lease_T) (d_Line_x : Bool) (d_Line : List Wait_T) (now : Int) (w_Client : Int) (w_Seq : Int) (w_File : Int) (w_Mode : Int) : unitQ Try.prog cfg Rc5 LP0 false 18 (groupA aref_sh (Tu.mk aref_fs ((d_Leases_x, d_Leases), (d_Line_x, d_Line), now, w_Client, w_Seq, w_File, w_Mode))) [] = aref_r d_Leases_x d_Leases d_Line_x d_Line now w_Client w_Seq w_File w_Mode := by kernel_rfl

abbrev giref_id : Nat := 13
abbrev giref_sh : Shp := [some 2, none, none]
abbrev giref_fs : List Lf := [.fl true Lease_tfs, .fl true Wait_tfs, .fi .i64, .fi .i64]
abbrev giref_rsh : Shp := [some 2]
abbrev giref_rfs : List Lf := [.fl true Lease_tfs, .fl true Wait_tfs]
noncomputable def giref_r (d_Leases_x : Bool) (d_Leases : List Lease_T) (d_Line_x : Bool) (d_Line : List Wait_T) (client : Int) (file : Int) : Option Ret :=
 oK (drefoS.dec [sl d_Leases_x d_Leases, i6 client, i6 file] []) fun (d0 : LW × Int × Int) => bK (mW (dropQ d0.1.2 d0.2.1 d0.2.2)).isEmpty (some (rt (AV.agg [.slc true [], sl d_Line_x d_Line]))) (bK (decide (0 + (mW (dropQ d0.1.2 d0.2.1 d0.2.2)).length ≤ (mW (dropQ d0.1.2 d0.2.1 d0.2.2)).length)) (some (rt (AV.agg [.slc false (List.take (mW (dropQ d0.1.2 d0.2.1 d0.2.2)).length (List.drop 0 (mW (dropQ d0.1.2 d0.2.1 d0.2.2)))), sl d_Line_x d_Line]))) none)
theorem giref_w (d_Leases_x : Bool) (d_Leases : List Lease_T) (d_Line_x : Bool) (d_Line : List Wait_T) (client : Int) (file : Int) : unitQ Try.prog cfg Z1 LP0 false 13 (groupA giref_sh (Tu.mk giref_fs ((d_Leases_x, d_Leases), (d_Line_x, d_Line), client, file))) [] = giref_r d_Leases_x d_Leases d_Line_x d_Line client file := by kernel_rfl

end Go.Proofs.Ytkanmigbbpppnaa
