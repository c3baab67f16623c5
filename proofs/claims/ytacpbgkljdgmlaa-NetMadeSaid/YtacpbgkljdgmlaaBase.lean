/- The setting: which functions are entered, in which regions the order is drawn, what a loop keeps. -/
import Derived.Test.YtacpbgkljdgmlaaChecked
import Derived.Test.YtacpbgkljdgmlaaAbAny
set_option linter.unusedVariables false
namespace Go.Proofs.Ytacpbgkljdgmlaa
open Go Go.Ab

abbrev boundsError_tfs : List Lf := [.fi .i64, .fi .i64, .fb, .fi .u8]
abbrev boundsError_T : Type := Int × Int × Bool × Int
abbrev errorAddressString_tfs : List Lf := [.fs, .fi .u64]
abbrev errorAddressString_T : Type := List UInt8 × Int
abbrev Gram_tfs : List Lf := [.fi .i64, .fs, .fb]
abbrev Gram_T : Type := Int × List UInt8 × Bool
abbrev unturned_tfs : List Lf := []
abbrev unturned_T : Type := Unit
-- 3 tenancy/tenancylaw21.NetAll
-- 4 tenancy/tenancylaw21.NetMade
-- 5 tenancy/tenancylaw21.NetForms
-- 6 tenancy/tenancylaw21.NetOrder
-- 7 tenancy/tenancylaw21.begun
-- 8 tenancy/net.Send
-- 9 tenancy/tenancyref21.Send
-- 10 tenancy/net.Comes
-- 11 tenancy/tenancyref21.Gone
-- 12 tenancy/net.Lost
-- 13 tenancy/net.Twice
-- 14 tenancy/tenancyref21.Twice
-- 15 tenancy/net.Turned
-- 16 tenancy/tenancyref21.Turned
-- 17 tenancy/tenancyref21.SameGrams
-- 18 tenancy/tenancylaw21.apart
-- 19 slices.Clone[[]tenancy/api.Gram,tenancy/api.Gram]
-- 20 tenancy/net.there
-- 21 slices.Delete[[]tenancy/api.Gram,tenancy/api.Gram]
-- 22 tenancy/net.Turned$1
-- 23 tenancy/net.turns
def dynT (f id : Nat) : List (Nat × Nat) :=
  if f = 3 ∧ id = 15 then [(5, 9), (5, 10), (5, 11), (2, 12), (3, 12), (4, 12), (5, 12)] else
  if f = 3 ∧ id = 24 then [(6, 9), (6, 10), (6, 11), (2, 14), (3, 14), (4, 14), (6, 14), (2, 15), (3, 15), (4, 15), (6, 15), (2, 17), (3, 17), (4, 17), (6, 17), (9, 17), (10, 17), (11, 17), (14, 17), (15, 17)] else
  if f = 3 ∧ id = 27 then [(2, 4)] else
  if f = 4 ∧ id = 11 then [(7, 11), (7, 12), (7, 13), (4, 14), (5, 14), (6, 14), (7, 14)] else
  if f = 4 ∧ id = 17 then [(2, 4), (1, 5), (2, 5)] else
  if f = 5 ∧ id = 4 then [(1, 2)] else
  if f = 10 ∧ id = 5 then [(4, 5)] else
  if f = 11 ∧ id = 3 then [(0, 3), (0, 8), (4, 8), (0, 12), (4, 12), (9, 12), (0, 13), (4, 13), (9, 13)] else
  if f = 15 ∧ id = 5 then [(0, 7)] else
  []
def keepT (f c : Nat) : Option (List Nat × List Nat) :=
  if f = 3 ∧ c = 0 then some ([0, 1, 5, 7, 8, 9], [80, 1440, 1441, 1442, 1443, 1568, 1569, 1570, 1571, 2128, 2129, 2130, 2131, 2176, 2177, 2178, 2179, 2288, 2289, 2290, 2291, 2416, 2417, 2418, 2419, 2672, 2673, 2674, 2675, 2768, 2769, 2770, 2771, 2944, 2945, 2946, 2947, 3056, 3057, 3058, 3059]) else
  if f = 4 ∧ c = 0 then some ([0, 3, 4, 5], [864, 865, 866, 867, 1216, 1217, 1218, 1219, 1280, 1472, 1473, 1474, 1475, 1616, 1617, 1618, 1619, 1744, 1745, 1746, 1747]) else
  if f = 4 ∧ c = 3 then some ([0, 3, 4, 5, 9], [864, 865, 866, 867, 1216, 1217, 1218, 1219, 1280, 1472, 1473, 1474, 1475, 1616, 1617, 1618, 1619, 1744, 1745, 1746, 1747]) else
  if f = 4 ∧ c = 5 then some ([0, 3, 4, 5, 9, 10, 11, 12], [864, 865, 866, 867, 1216, 1217, 1218, 1219, 1280, 1472, 1473, 1474, 1475, 1616, 1617, 1618, 1619, 1744, 1745, 1746, 1747]) else
  if f = 5 ∧ c = 0 then some ([1, 2, 3, 4, 5, 7, 9, 11, 13, 14, 15, 16, 17, 19, 20, 21, 22, 23, 24, 25, 26], [16, 32, 368, 592, 593, 594, 595, 640, 641, 642, 643, 720, 721, 722, 723, 800, 801, 802, 803, 880, 881, 882, 883, 960, 961, 962, 963, 1040, 1041, 1042, 1043, 1120, 1121, 1122, 1123, 1200, 1201, 1202, 1203, 1280, 1281, 1282, 1283, 1360, 1361, 1362, 1363, 1536]) else
  if f = 6 ∧ c = 0 then some ([0, 1, 5, 6, 7, 8], [720, 721, 722, 723, 1072, 1073, 1074, 1075, 1472, 1473, 1474, 1475]) else
  if f = 6 ∧ c = 2 then some ([0, 1, 5, 6, 7, 8, 10], [720, 721, 722, 723, 1072, 1073, 1074, 1075, 1472, 1473, 1474, 1475]) else
  if f = 6 ∧ c = 4 then some ([5, 6, 7, 14], [720, 721, 722, 723, 1072, 1073, 1074, 1075, 1472, 1473, 1474, 1475]) else
  if f = 17 ∧ c = 0 then some ([0, 1, 5], []) else
  if f = 18 ∧ c = 0 then some ([0, 1, 5, 6], []) else
  none
def keepXT (f c : Nat) : Option (List Nat × List Nat) :=
  if f = 3 ∧ c = 0 then some ([6], []) else
  if f = 4 ∧ c = 0 then some ([2], []) else
  if f = 4 ∧ c = 3 then some ([0, 2, 3, 4, 5], [864, 865, 866, 867, 1216, 1217, 1218, 1219, 1280, 1472, 1473, 1474, 1475, 1616, 1617, 1618, 1619, 1744, 1745, 1746, 1747]) else
  if f = 4 ∧ c = 5 then some ([0, 2, 3, 4, 5, 9, 10], [864, 865, 866, 867, 1216, 1217, 1218, 1219, 1280, 1472, 1473, 1474, 1475, 1616, 1617, 1618, 1619, 1744, 1745, 1746, 1747]) else
  if f = 5 ∧ c = 0 then some ([0, 1, 2, 3, 4, 5, 7, 9, 11, 13, 14, 15, 16, 17, 19, 20, 21, 22, 23, 24, 25], [16, 32, 368, 592, 593, 594, 595, 640, 641, 642, 643, 720, 721, 722, 723, 800, 801, 802, 803, 880, 881, 882, 883, 960, 961, 962, 963, 1040, 1041, 1042, 1043, 1120, 1121, 1122, 1123, 1200, 1201, 1202, 1203, 1280, 1281, 1282, 1283, 1360, 1361, 1362, 1363, 1536]) else
  if f = 6 ∧ c = 0 then some ([4, 5, 6, 7], [720, 721, 722, 723, 1072, 1073, 1074, 1075, 1472, 1473, 1474, 1475]) else
  if f = 6 ∧ c = 2 then some ([0, 1, 4, 5, 6, 7, 8], [720, 721, 722, 723, 1072, 1073, 1074, 1075, 1472, 1473, 1474, 1475]) else
  if f = 6 ∧ c = 4 then some ([4, 5, 6, 7], [720, 721, 722, 723, 1072, 1073, 1074, 1075, 1472, 1473, 1474, 1475]) else
  if f = 17 ∧ c = 0 then some ([4], []) else
  if f = 18 ∧ c = 0 then some ([4, 5], []) else
  none
def splT (f t : Nat) : Nat :=
  0
def fnL : List Nat := [3, 4, 5, 6, 7, 8, 9, 10, 11, 12, 13, 14, 15, 16, 17, 18, 19, 20, 21, 22, 23]
def cfg : Cfg := { isF := fun f => decide (f ∈ fnL), keep := keepT, dyn := dynT, byref := fun f => decide (f ∈ ([21] : List Nat)), thaw := fun f => decide (f ∈ ([19, 21] : List Nat)), prim := fun _ => none, spl := splT, keepX := keepXT, inp := fun f => decide (f ∈ ([21] : List Nat)) }
theorem tests : fnL.all (fnOkB Try.prog cfg) = true := by kernel_rfl
theorem mixed : Try.prog.follows .mixedOrders = true := by kernel_rfl
theorem fnOk {pk : PKs} (h : PKsOk Try.prog pk) (k : Nat) : FnOk Try.prog (evF Try.prog (cfg.with pk) k) := h.fn mixed (fun f hf => by simpa [cfg] using hf) tests k
end Go.Proofs.Ytacpbgkljdgmlaa

