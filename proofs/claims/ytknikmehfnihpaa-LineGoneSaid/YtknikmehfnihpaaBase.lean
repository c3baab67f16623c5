/- The setting: which functions are entered, in which regions the order is drawn, what a loop keeps. -/
import Derived.Test.YtknikmehfnihpaaChecked
import Derived.Test.YtknikmehfnihpaaAbLp
set_option linter.unusedVariables false
namespace Go.Proofs.Ytknikmehfnihpaa
open Go Go.Ab

abbrev boundsError_tfs : List Lf := [.fi .i64, .fi .i64, .fb, .fi .u8]
abbrev boundsError_T : Type := Int × Int × Bool × Int
abbrev errorAddressString_tfs : List Lf := [.fs, .fi .u64]
abbrev errorAddressString_T : Type := List UInt8 × Int
abbrev Wait_tfs : List Lf := [.fi .i64, .fi .i64, .fi .i64, .fi .i64]
abbrev Wait_T : Type := Int × Int × Int × Int
-- 3 tenancy/tenancylaw14.LineAll
-- 4 tenancy/tenancylaw14.LineFirst
-- 5 tenancy/tenancylaw14.LineForms
-- 6 tenancy/tenancylaw14.LineGone
-- 7 tenancy/tenancylaw14.begun
-- 8 tenancy/line.Put
-- 9 tenancy/tenancyref13.PutWait
-- 10 tenancy/line.Drop
-- 11 tenancy/tenancyref13.DropWait
-- 12 tenancy/tenancyref13.SameWaits
-- 13 tenancy/line.Ahead
-- 14 tenancy/tenancyref13.Ahead
-- 15 slices.Clone[[]tenancy/api.Wait,tenancy/api.Wait]
-- 16 tenancy/line.place
-- 17 slices.DeleteFunc[[]tenancy/api.Wait,tenancy/api.Wait]
-- 18 tenancy/line.Drop$1
-- 19 slices.IndexFunc[[]tenancy/api.Wait,tenancy/api.Wait]
-- 20 tenancy/line.place$1
def dynT (f id : Nat) : List (Nat × Nat) :=
  if f = 3 ∧ id = 9 then [(6, 10), (6, 11), (6, 12), (2, 14), (3, 14), (4, 14), (6, 14)] else
  if f = 4 ∧ id = 10 then [(6, 10), (6, 11), (6, 12), (2, 14), (3, 14), (4, 14), (6, 14)] else
  if f = 6 ∧ id = 9 then [(7, 13), (7, 14), (7, 15), (3, 17), (4, 17), (5, 17), (7, 17)] else
  []
def keepT (f c : Nat) : Option (List Nat × List Nat) :=
  if f = 3 ∧ c = 0 then some ([0, 2, 3, 5, 9, 10, 11], [80, 1168, 1169, 1170, 1171, 1264, 1265, 1266, 1267, 1424, 1425, 1426, 1427, 1472, 1473, 1474, 1475]) else
  if f = 4 ∧ c = 0 then some ([0, 3, 4, 5], [992, 993, 994, 995, 1424, 1425, 1426, 1427]) else
  if f = 4 ∧ c = 2 then some ([0, 3, 4, 5, 12], [992, 993, 994, 995, 1424, 1425, 1426, 1427]) else
  if f = 4 ∧ c = 4 then some ([0, 3, 4, 5, 12, 13], [992, 993, 994, 995, 1424, 1425, 1426, 1427]) else
  if f = 4 ∧ c = 6 then some ([0, 3, 4, 5, 12, 13, 14, 15, 16, 17], [240, 992, 993, 994, 995, 1424, 1425, 1426, 1427]) else
  if f = 5 ∧ c = 0 then some ([1, 2], [352, 353, 354, 355]) else
  if f = 6 ∧ c = 0 then some ([0, 1, 5, 6], [688, 689, 690, 691]) else
  if f = 6 ∧ c = 2 then some ([5, 7, 8, 9, 10], [688, 689, 690, 691, 832, 833, 834, 835]) else
  if f = 9 ∧ c = 0 then some ([0, 3, 6], [48]) else
  if f = 11 ∧ c = 0 then some ([0, 1, 5, 6], [416]) else
  if f = 12 ∧ c = 0 then some ([0, 1, 5], []) else
  if f = 13 ∧ c = 0 then some ([1, 2, 9, 10, 11], []) else
  if f = 14 ∧ c = 0 then some ([0, 1, 2, 7], []) else
  if f = 17 ∧ c = 0 then some ([0, 1, 5, 6], [160, 161, 162, 163]) else
  if f = 19 ∧ c = 0 then some ([0, 1, 7, 8], []) else
  none
def keepXT (f c : Nat) : Option (List Nat × List Nat) :=
  if f = 3 ∧ c = 0 then some ([2, 3, 5, 8, 9, 10], [80, 1168, 1169, 1170, 1171, 1264, 1265, 1266, 1267, 1424, 1425, 1426, 1427, 1472, 1473, 1474, 1475, 2224, 2225, 2226, 2227]) else
  if f = 4 ∧ c = 0 then some ([2], []) else
  if f = 4 ∧ c = 2 then some ([0, 2, 3, 4, 5], [992, 993, 994, 995, 1424, 1425, 1426, 1427]) else
  if f = 4 ∧ c = 4 then some ([0, 2, 3, 4, 5, 12], [992, 993, 994, 995, 1424, 1425, 1426, 1427]) else
  if f = 4 ∧ c = 6 then some ([0, 2, 3, 4, 5, 12, 13, 14], [992, 993, 994, 995, 1424, 1425, 1426, 1427]) else
  if f = 5 ∧ c = 0 then some ([0, 1], [352, 353, 354, 355, 688, 689, 690, 691, 784, 785, 786, 787, 1120, 1121, 1122, 1123, 1920, 1921, 1922, 1923, 1984, 1985, 1986, 1987, 2128, 2129, 2130, 2131]) else
  if f = 6 ∧ c = 0 then some ([1, 4, 5], [688, 689, 690, 691, 1552, 1553, 1554, 1555]) else
  if f = 6 ∧ c = 2 then some ([4, 5, 7, 8, 9], [688, 689, 690, 691, 832, 833, 834, 835, 1552, 1553, 1554, 1555]) else
  if f = 9 ∧ c = 0 then some ([0, 3, 4, 5], [48, 528, 560, 704, 705, 706, 707, 832]) else
  if f = 11 ∧ c = 0 then some ([4, 5], [416]) else
  if f = 12 ∧ c = 0 then some ([4], []) else
  if f = 13 ∧ c = 0 then some ([6], []) else
  if f = 14 ∧ c = 0 then some ([6], []) else
  if f = 17 ∧ c = 0 then some ([0, 4, 5], [160, 161, 162, 163]) else
  if f = 19 ∧ c = 0 then some ([4], []) else
  none
def splT (f t : Nat) : Nat :=
  0
def fnL : List Nat := [3, 4, 5, 6, 7, 8, 9, 10, 11, 12, 13, 14, 15, 16, 17, 18, 19, 20]
def cfg : Cfg := { isF := fun f => decide (f ∈ fnL), keep := keepT, dyn := dynT, byref := fun f => decide (f ∈ ([19, 17] : List Nat)), thaw := fun f => decide (f ∈ ([15, 10, 18, 17, 11] : List Nat)), prim := fun _ => none, spl := splT, keepX := keepXT }
theorem tests : fnL.all (fnOkB Try.prog cfg) = true := by kernel_rfl
theorem mixed : Try.prog.follows .mixedOrders = true := by kernel_rfl
theorem fnOk {pk : PKs} (h : PKsOk Try.prog pk) (k : Nat) : FnOk Try.prog (evF Try.prog (cfg.with pk) k) := h.fn mixed (fun f hf => by simpa [cfg] using hf) tests k
end Go.Proofs.Ytknikmehfnihpaa

