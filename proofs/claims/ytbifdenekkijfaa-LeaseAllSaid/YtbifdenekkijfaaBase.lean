/- The setting: which functions are entered, in which regions the order is drawn, what a loop keeps. -/
import Derived.Test.YtbifdenekkijfaaChecked
import Derived.Test.YtbifdenekkijfaaAbAny
set_option linter.unusedVariables false
namespace Go.Proofs.Ytbifdenekkijfaa
open Go Go.Ab

-- NOBODY 36 slices.overlaps[tenancy/api.Lease]
abbrev boundsError_tfs : List Lf := [.fi .i64, .fi .i64, .fb, .fi .u8]
abbrev boundsError_T : Type := Int × Int × Bool × Int
abbrev errorAddressString_tfs : List Lf := [.fs, .fi .u64]
abbrev errorAddressString_T : Type := List UInt8 × Int
abbrev Lease_tfs : List Lf := [.fi .i64, .fi .i64, .fi .i64, .fi .i64]
abbrev Lease_T : Type := Int × Int × Int × Int
abbrev Picks_tfs : List Lf := [.fl false [.fi .u8], .fi .i64]
abbrev Picks_T : Type := (Bool × List (Int)) × Int
-- 3 tenancy/tenancylaw13.LeaseAll
-- 4 tenancy/tenancylaw13.LeaseAlone
-- 5 tenancy/tenancylaw13.LeaseForms
-- 6 tenancy/tenancylaw13.LeaseOver
-- 7 tenancy/tenancylaw13.LeaseGrows
-- 8 tenancy/tenancylaw13.begun
-- 9 tenancy/tenancymade.Made
-- 10 (*tenancy/tenancymade.Picks).Leases
-- 11 tenancy/lease.Holds
-- 12 tenancy/tenancyref13.Holds
-- 13 tenancy/tenancyref13.SameLeases
-- 14 tenancy/lease.Drop
-- 15 tenancy/tenancyref13.Drop
-- 16 tenancy/tenancylaw13.same
-- 17 tenancy/lease.Clash
-- 18 tenancy/tenancyref13.Clash
-- 19 tenancy/lease.May
-- 20 tenancy/tenancyref13.MayLeases
-- 21 tenancy/lease.Grant
-- 22 tenancy/tenancyref13.Grant
-- 23 tenancy/lease.Prune
-- 24 tenancy/tenancyref13.Prune
-- 25 (*tenancy/tenancymade.Picks).Num
-- 26 slices.BinarySearchFunc[[]tenancy/api.Lease,tenancy/api.Lease,tenancy/api.Lease]
-- 27 tenancy/lease.order
-- 28 slices.DeleteFunc[[]tenancy/api.Lease,tenancy/api.Lease]
-- 29 slices.Clone[[]tenancy/api.Lease,tenancy/api.Lease]
-- 30 tenancy/lease.Drop$1
-- 31 slices.Insert[[]tenancy/api.Lease,tenancy/api.Lease]
-- 32 tenancy/lease.Prune$1
-- 33 cmp.Or[int]
-- 34 cmp.Compare[int]
-- 35 slices.IndexFunc[[]tenancy/api.Lease,tenancy/api.Lease]
-- 37 slices.rotateRight[tenancy/api.Lease]
-- 38 cmp.isNaN[int]
-- 39 slices.rotateLeft[tenancy/api.Lease]
-- 40 slices.Reverse[[]tenancy/api.Lease,tenancy/api.Lease]
def dynT (f id : Nat) : List (Nat × Nat) :=
  if f = 3 ∧ id = 20 then [(12, 14), (26, 28), (36, 40), (37, 40), (47, 53), (50, 53)] else
  if f = 4 ∧ id = 10 then [(6, 10), (6, 11), (6, 12), (2, 14), (3, 14), (4, 14), (6, 14), (6, 18), (14, 18), (6, 19), (14, 19), (6, 20), (14, 20), (2, 22), (3, 22), (4, 22), (6, 22), (10, 22), (11, 22), (12, 22), (14, 22)] else
  if f = 5 ∧ id = 4 then [(1, 2), (1, 4), (3, 4)] else
  if f = 21 ∧ id = 5 then [(17, 22), (18, 22), (19, 22)] else
  if f = 22 ∧ id = 5 then [(12, 17), (13, 17), (14, 17), (15, 17)] else
  if f = 22 ∧ id = 11 then [(0, 3), (0, 5), (4, 5), (0, 6), (3, 6), (4, 6), (0, 10), (4, 10), (6, 10), (7, 10)] else
  if f = 27 ∧ id = 1 then [(4, 5), (4, 6), (4, 7), (4, 8)] else
  []
def keepT (f c : Nat) : Option (List Nat × List Nat) :=
  if f = 3 ∧ c = 0 then some ([1, 3, 4, 5, 8, 13, 14], [128, 480, 481, 482, 483]) else
  if f = 3 ∧ c = 2 then some ([1, 3, 4, 5, 8, 13, 14, 15], [128, 480, 481, 482, 483]) else
  if f = 3 ∧ c = 4 then some ([1, 3, 4, 5, 8, 13, 14, 15, 16], [128, 480, 481, 482, 483]) else
  if f = 4 ∧ c = 0 then some ([0, 3, 4, 5], [1120, 1121, 1122, 1123, 1456, 1457, 1458, 1459, 1552, 1553, 1554, 1555]) else
  if f = 4 ∧ c = 3 then some ([0, 3, 4, 5, 9], [1120, 1121, 1122, 1123, 1456, 1457, 1458, 1459, 1552, 1553, 1554, 1555]) else
  if f = 4 ∧ c = 5 then some ([0, 3, 4, 5, 9, 10, 11, 12], [1120, 1121, 1122, 1123, 1456, 1457, 1458, 1459, 1552, 1553, 1554, 1555]) else
  if f = 5 ∧ c = 0 then some ([4, 5, 6, 7, 8], [304, 305, 306, 307, 736, 737, 738, 739, 784, 785, 786, 787, 944, 976, 1008, 1040, 1072, 1104, 1152, 1200, 1248, 1264]) else
  if f = 6 ∧ c = 0 then some ([11, 13, 14, 15, 16, 17], [400, 401, 402, 403, 544, 545, 546, 547]) else
  if f = 7 ∧ c = 0 then some ([13, 14, 15, 16, 17], [224, 464, 465, 466, 467, 688, 752, 753, 754, 755, 784]) else
  if f = 7 ∧ c = 2 then some ([13, 14, 15, 16, 17, 18], [224, 464, 465, 466, 467, 688, 752, 753, 754, 755, 784]) else
  if f = 10 ∧ c = 0 then some ([0, 3, 4], [96, 97, 98, 99, 384, 385, 386, 387]) else
  if f = 12 ∧ c = 0 then some ([0, 1, 2, 3, 9], []) else
  if f = 13 ∧ c = 0 then some ([0, 1, 5], []) else
  if f = 15 ∧ c = 0 then some ([0, 1, 2, 7, 8], [592]) else
  if f = 16 ∧ c = 0 then some ([0, 1, 5], []) else
  if f = 17 ∧ c = 0 then some ([0, 1, 2, 3, 4, 10, 14, 15, 16], [800]) else
  if f = 18 ∧ c = 0 then some ([0, 1, 2, 3, 4, 11, 12], [656]) else
  if f = 19 ∧ c = 0 then some ([0, 5, 6, 7], []) else
  if f = 20 ∧ c = 0 then some ([0, 3], []) else
  if f = 22 ∧ c = 0 then some ([0, 3, 5], [48]) else
  if f = 22 ∧ c = 2 then some ([3, 6, 7], [48, 880, 881, 882, 883]) else
  if f = 24 ∧ c = 0 then some ([0, 1, 5, 6], [416]) else
  if f = 26 ∧ c = 0 then some ([0, 2, 4, 8, 9, 10], [64, 368]) else
  if f = 28 ∧ c = 0 then some ([0, 1, 5, 6], [160, 161, 162, 163]) else
  if f = 33 ∧ c = 0 then some ([3, 6, 7, 8], []) else
  if f = 35 ∧ c = 0 then some ([0, 1, 7, 8], []) else
  if f = 40 ∧ c = 0 then some ([0, 2, 3], []) else
  none
def keepXT (f c : Nat) : Option (List Nat × List Nat) :=
  if f = 3 ∧ c = 0 then some ([1, 3, 4, 5, 8, 12, 13], [128, 480, 481, 482, 483, 1632, 1633, 1634, 1635, 1872, 1873, 1874, 1875, 2096, 2097, 2098, 2099, 2288, 2289, 2290, 2291]) else
  if f = 3 ∧ c = 2 then some ([1, 3, 4, 5, 8, 12, 13, 14], [128, 480, 481, 482, 483, 1632, 1633, 1634, 1635, 1872, 1873, 1874, 1875, 2096, 2097, 2098, 2099, 2288, 2289, 2290, 2291]) else
  if f = 3 ∧ c = 4 then some ([1, 3, 4, 5, 8, 12, 13, 14, 15], [128, 480, 481, 482, 483, 1632, 1633, 1634, 1635, 1872, 1873, 1874, 1875, 2096, 2097, 2098, 2099, 2288, 2289, 2290, 2291]) else
  if f = 4 ∧ c = 0 then some ([2], []) else
  if f = 4 ∧ c = 3 then some ([0, 2, 3, 4, 5], [1120, 1121, 1122, 1123, 1456, 1457, 1458, 1459, 1552, 1553, 1554, 1555]) else
  if f = 4 ∧ c = 5 then some ([0, 2, 3, 4, 5, 9, 10, 11], [1120, 1121, 1122, 1123, 1456, 1457, 1458, 1459, 1552, 1553, 1554, 1555]) else
  if f = 5 ∧ c = 0 then some ([0, 4, 5, 6], [304, 305, 306, 307, 736, 737, 738, 739, 784, 785, 786, 787, 1936, 1937, 1938, 1939, 2032, 2033, 2034, 2035, 2224, 2225, 2226, 2227, 2672, 2673, 2674, 2675, 2720, 2721, 2722, 2723]) else
  if f = 6 ∧ c = 0 then some ([10, 11, 13, 14, 15, 16], [400, 401, 402, 403, 544, 545, 546, 547, 1376, 1377, 1378, 1379, 1440, 1441, 1442, 1443]) else
  if f = 7 ∧ c = 0 then some ([12, 13, 15], [464, 465, 466, 467, 752, 753, 754, 755, 1696, 1697, 1698, 1699]) else
  if f = 7 ∧ c = 2 then some ([12, 13, 14, 15, 16, 17], [224, 464, 465, 466, 467, 688, 752, 753, 754, 755, 784, 1696, 1697, 1698, 1699]) else
  if f = 10 ∧ c = 0 then some ([2, 3], [384, 385, 386, 387]) else
  if f = 12 ∧ c = 0 then some ([8], []) else
  if f = 13 ∧ c = 0 then some ([4], []) else
  if f = 15 ∧ c = 0 then some ([6, 7], [592]) else
  if f = 16 ∧ c = 0 then some ([4], []) else
  if f = 17 ∧ c = 0 then some ([10], [800]) else
  if f = 18 ∧ c = 0 then some ([10, 11], [656]) else
  if f = 19 ∧ c = 0 then some ([2], []) else
  if f = 20 ∧ c = 0 then some ([2], []) else
  if f = 22 ∧ c = 0 then some ([0, 3, 4], [48, 880, 881, 882, 883, 1440, 1504, 1552, 1616, 1680]) else
  if f = 22 ∧ c = 2 then some ([3, 4, 6], [48, 880, 881, 882, 883, 1440, 1504, 1552, 1616, 1680]) else
  if f = 24 ∧ c = 0 then some ([4, 5], [416]) else
  if f = 26 ∧ c = 0 then some ([0, 2, 4, 6, 7, 8, 9], [64]) else
  if f = 28 ∧ c = 0 then some ([0, 4, 5], [160, 161, 162, 163]) else
  if f = 33 ∧ c = 0 then some ([2, 3], []) else
  if f = 35 ∧ c = 0 then some ([4], []) else
  if f = 40 ∧ c = 0 then some ([], []) else
  none
def splT (f t : Nat) : Nat :=
  0
def fnL : List Nat := [3, 4, 5, 6, 7, 8, 9, 10, 11, 12, 13, 14, 15, 16, 17, 18, 19, 20, 21, 22, 23, 24, 25, 26, 27, 28, 29, 30, 31, 32, 33, 34, 35, 37, 38, 39, 40]
def cfg : Cfg := { isF := fun f => decide (f ∈ fnL), keep := keepT, dyn := dynT, byref := fun f => decide (f ∈ ([31, 28, 35] : List Nat)), thaw := fun f => decide (f ∈ ([29, 31, 28, 15] : List Nat)), prim := fun _ => none, spl := splT, keepX := keepXT, inp := fun f => decide (f ∈ ([31] : List Nat)) }
theorem tests : fnL.all (fnOkB Try.prog cfg) = true := by kernel_rfl
theorem mixed : Try.prog.follows .mixedOrders = true := by kernel_rfl
theorem fnOk {pk : PKs} (h : PKsOk Try.prog pk) (k : Nat) : FnOk Try.prog (evF Try.prog (cfg.with pk) k) := h.fn mixed (fun f hf => by simpa [cfg] using hf) tests k
end Go.Proofs.Ytbifdenekkijfaa

