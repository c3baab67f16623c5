/- The setting: which functions are entered, in which regions the order is drawn, what a loop keeps. -/
import Derived.Test.YtlomiepgghlhbaaChecked
import Derived.Test.YtlomiepgghlhbaaAbAny
set_option linter.unusedVariables false
namespace Go.Proofs.Ytlomiepgghlhbaa
open Go Go.Ab

-- CODE 43 (*strings.Builder).copyCheck
-- NOBODY 45 internal/abi.NoEscape
-- NOBODY 46 internal/bytealg.MakeNoZero
-- CODE 14 tenancy/disk.Read
abbrev boundsError_tfs : List Lf := [.fi .i64, .fi .i64, .fb, .fi .u8]
abbrev boundsError_T : Type := Int × Int × Bool × Int
abbrev errorAddressString_tfs : List Lf := [.fs, .fi .u64]
abbrev errorAddressString_T : Type := List UInt8 × Int
abbrev Put_tfs : List Lf := [.fi .i64, .fs]
abbrev Put_T : Type := Int × List UInt8
abbrev Disk_tfs : List Lf := [.fl false [.fs], .fl true Put_tfs, .fi .i64, .fb]
abbrev Disk_T : Type := (Bool × List (List UInt8)) × (Bool × List Put_T) × Int × Bool
abbrev lasting_tfs : List Lf := [.fl false [.fs], .fl true Put_tfs, .fi .i64, .fb]
abbrev lasting_T : Type := (Bool × List (List UInt8)) × (Bool × List Put_T) × Int × Bool
-- 3 tenancy/tenancylaw5.DiskAll
-- 4 tenancy/tenancylaw5.DiskLasts
-- 5 tenancy/tenancylaw5.DiskForms
-- 6 tenancy/tenancylaw5.DiskReads
-- 7 tenancy/tenancylaw5.begun
-- 8 tenancy/disk.New
-- 9 tenancy/tenancyref5.New
-- 10 tenancy/disk.Flush
-- 11 tenancy/tenancyref5.Flush
-- 12 tenancy/disk.Crash
-- 13 tenancy/tenancyref5.Crash
-- 14 tenancy/disk.Read
-- 15 tenancy/tenancyref5.Read
-- 16 tenancy/disk.Write
-- 17 tenancy/tenancyref5.Write
-- 18 tenancy/tenancylaw5.sector
-- 19 tenancy/tenancyref5.Same
-- 20 slices.Repeat[[]string,string]
-- 21 strings.Repeat
-- 22 tenancy/tenancyref5.noughts
-- 23 tenancy/disk.twin
-- 24 (*tenancy/disk.lasting).lasts
-- 25 tenancy/tenancyref5.lasts
-- 26 tenancy/disk.there
-- 27 slices.Backward[[]tenancy/api.Put,tenancy/api.Put]
-- 28 tenancy/tenancyref5.is
-- 29 tenancy/tenancyref5.SameTexts
-- 30 tenancy/tenancyref5.SamePuts
-- 31 math/bits.Mul
-- 32 strings.HasPrefix
-- 33 (*strings.Builder).Grow
-- 34 (*strings.Builder).WriteString
-- 35 (*strings.Builder).Len
-- 36 (*strings.Builder).String
-- 37 slices.Clone[[]string,string]
-- 38 slices.Clone[[]tenancy/api.Put,tenancy/api.Put]
-- 39 slices.Backward[[]tenancy/api.Put,tenancy/api.Put]$1
-- 40 math/bits.Mul32
-- 41 math/bits.Mul64
-- 42 internal/stringslite.HasPrefix
-- 43 (*strings.Builder).copyCheck
-- 44 (*strings.Builder).grow
def dynT (f id : Nat) : List (Nat × Nat) :=
  if f = 3 ∧ id = 14 then [(0, 7)] else
  if f = 3 ∧ id = 15 then [(0, 7)] else
  if f = 3 ∧ id = 20 then [(6, 9), (6, 10), (6, 11), (2, 12), (3, 12), (4, 12), (6, 12), (6, 16), (12, 16), (6, 17), (12, 17), (6, 18), (12, 18), (2, 19), (3, 19), (4, 19), (6, 19), (9, 19), (10, 19), (11, 19), (12, 19)] else
  if f = 3 ∧ id = 21 then [(2, 3)] else
  if f = 3 ∧ id = 23 then [(6, 9), (6, 10), (6, 11), (2, 13), (3, 13), (4, 13), (6, 13), (13, 14), (9, 15), (10, 15), (11, 15), (13, 15)] else
  if f = 3 ∧ id = 34 then [(2, 3)] else
  if f = 4 ∧ id = 9 then [(0, 7), (7, 10), (7, 11), (7, 12), (0, 13), (3, 13), (4, 13), (5, 13), (7, 13)] else
  if f = 4 ∧ id = 15 then [(0, 7), (7, 10), (7, 11), (7, 12), (0, 13), (3, 13), (4, 13), (5, 13), (7, 13)] else
  if f = 5 ∧ id = 22 then [(70, 74), (71, 74), (72, 74), (73, 74), (70, 75), (71, 75), (72, 75), (73, 75)] else
  if f = 6 ∧ id = 19 then [(2, 11), (3, 11), (4, 11)] else
  if f = 6 ∧ id = 20 then [(0, 7), (7, 10), (7, 11), (7, 12), (0, 13), (3, 13), (4, 13), (5, 13), (7, 13)] else
  if f = 7 ∧ id = 2 then [(0, 1), (0, 2), (0, 8), (1, 8), (2, 8), (4, 8)] else
  if f = 9 ∧ id = 5 then [(0, 2), (1, 2), (0, 3), (1, 3)] else
  if f = 16 ∧ id = 8 then [(1, 4), (2, 4)] else
  if f = 17 ∧ id = 7 then [(1, 4), (2, 4)] else
  if f = 23 ∧ id = 1 then [(2, 3), (2, 4), (5, 6)] else
  if f = 33 ∧ id = 3 then [(4, 6), (4, 7), (4, 8), (4, 9)] else
  if f = 36 ∧ id = 1 then [(4, 6), (4, 7), (4, 8), (4, 9)] else
  if f = 44 ∧ id = 0 then [(4, 10), (8, 10), (4, 11), (8, 11), (4, 12), (8, 12), (4, 13), (8, 13)] else
  []
def keepT (f c : Nat) : Option (List Nat × List Nat) :=
  if f = 3 ∧ c = 0 then some ([0, 1, 2, 3, 4, 11, 12, 13], [176, 192, 592, 593, 594, 595, 608, 609, 610, 611, 1152, 1153, 1154, 1155, 1344, 1345, 1346, 1347, 1456, 1457, 1458, 1459, 1536, 1537, 1538, 1539, 1984, 1985, 1986, 1987, 2032, 2033, 2034, 2035, 2176, 2288, 2784, 2785, 2786, 2787, 2896, 2897, 2898, 2899]) else
  if f = 4 ∧ c = 0 then some ([0, 1, 2, 7, 8], [112, 560, 561, 562, 563, 912, 913, 914, 915, 992, 993, 994, 995, 1392, 1393, 1394, 1395]) else
  if f = 4 ∧ c = 2 then some ([1, 2, 7, 9, 10], [112, 144, 560, 561, 562, 563, 912, 913, 914, 915, 992, 993, 994, 995, 1392, 1393, 1394, 1395]) else
  if f = 4 ∧ c = 4 then some ([1, 9, 11, 12], [144, 176, 560, 561, 562, 563, 912, 913, 914, 915, 992, 993, 994, 995, 1392, 1393, 1394, 1395, 1472, 1473, 1474, 1475]) else
  if f = 4 ∧ c = 6 then some ([1, 9, 11, 12, 13, 15, 17], [144, 176, 560, 561, 562, 563, 912, 913, 914, 915, 992, 993, 994, 995, 1392, 1393, 1394, 1395, 1472, 1473, 1474, 1475, 1600, 1601, 1602, 1603, 1696, 1697, 1698, 1699]) else
  if f = 4 ∧ c = 8 then some ([1, 9, 11, 12, 13, 15, 17, 18, 19], [144, 176, 560, 561, 562, 563, 912, 913, 914, 915, 992, 993, 994, 995, 1392, 1393, 1394, 1395, 1472, 1473, 1474, 1475, 1600, 1601, 1602, 1603, 1696, 1697, 1698, 1699]) else
  if f = 6 ∧ c = 0 then some ([0, 3, 4, 5], [48, 64, 256, 257, 258, 259, 352, 368, 640, 641, 642, 643, 928, 929, 930, 931, 1200, 1201, 1202, 1203]) else
  if f = 6 ∧ c = 2 then some ([0, 3, 4, 6], [48, 64, 256, 257, 258, 259, 352, 368, 640, 641, 642, 643, 928, 929, 930, 931, 1200, 1201, 1202, 1203]) else
  if f = 6 ∧ c = 4 then some ([0, 3, 4, 6, 7, 8], [48, 64, 256, 257, 258, 259, 352, 368, 640, 641, 642, 643, 928, 929, 930, 931, 1200, 1201, 1202, 1203]) else
  if f = 9 ∧ c = 0 then some ([0, 2, 3, 4], [32, 48, 304]) else
  if f = 10 ∧ c = 0 then some ([2, 4, 18, 19, 20], [32, 128, 129, 130, 131, 160]) else
  if f = 11 ∧ c = 0 then some ([1, 2, 4], [16, 32, 352, 353, 354, 355]) else
  if f = 12 ∧ c = 0 then some ([1, 4, 5, 13, 14, 15], [64, 144, 145, 146, 147, 176]) else
  if f = 13 ∧ c = 0 then some ([1, 2, 4, 5], [32, 64, 512, 513, 514, 515]) else
  if f = 15 ∧ c = 0 then some ([1, 2, 6, 7], [32]) else
  if f = 18 ∧ c = 0 then some ([0, 3, 4], [80, 304]) else
  if f = 20 ∧ c = 0 then some ([7, 8], [480]) else
  if f = 21 ∧ c = 3 then some ([7, 8, 9], [144, 416, 417, 418, 419, 592]) else
  if f = 29 ∧ c = 0 then some ([0, 1, 5], []) else
  if f = 30 ∧ c = 0 then some ([0, 1, 5], []) else
  if f = 39 ∧ c = 0 then some ([0, 1, 3], []) else
  none
def keepXT (f c : Nat) : Option (List Nat × List Nat) :=
  if f = 3 ∧ c = 0 then some ([3, 4, 10, 11, 12], [176, 192, 592, 593, 594, 595, 608, 609, 610, 611, 1152, 1153, 1154, 1155, 1344, 1345, 1346, 1347, 1456, 1457, 1458, 1459, 1536, 1537, 1538, 1539, 1984, 1985, 1986, 1987, 2032, 2033, 2034, 2035, 2176, 2288, 2784, 2785, 2786, 2787, 2896, 2897, 2898, 2899, 3184, 3185, 3186, 3187, 3328, 3329, 3330, 3331]) else
  if f = 4 ∧ c = 0 then some ([1, 2, 6, 7], [112, 560, 561, 562, 563, 912, 913, 914, 915, 992, 993, 994, 995, 1392, 1393, 1394, 1395]) else
  if f = 4 ∧ c = 2 then some ([1, 2, 6, 7, 9], [112, 144, 560, 561, 562, 563, 912, 913, 914, 915, 992, 993, 994, 995, 1392, 1393, 1394, 1395]) else
  if f = 4 ∧ c = 4 then some ([6, 11], [176, 1472, 1473, 1474, 1475]) else
  if f = 4 ∧ c = 6 then some ([1, 6, 9, 11, 12], [144, 176, 560, 561, 562, 563, 912, 913, 914, 915, 992, 993, 994, 995, 1392, 1393, 1394, 1395, 1472, 1473, 1474, 1475]) else
  if f = 4 ∧ c = 8 then some ([1, 6, 9, 11, 12, 13, 15, 17, 18], [144, 176, 560, 561, 562, 563, 912, 913, 914, 915, 992, 993, 994, 995, 1392, 1393, 1394, 1395, 1472, 1473, 1474, 1475, 1600, 1601, 1602, 1603, 1696, 1697, 1698, 1699]) else
  if f = 6 ∧ c = 0 then some ([0, 2, 3, 4], [48, 64, 256, 257, 258, 259, 352, 368, 640, 641, 642, 643, 928, 929, 930, 931, 1200, 1201, 1202, 1203]) else
  if f = 6 ∧ c = 2 then some ([2], []) else
  if f = 6 ∧ c = 4 then some ([0, 2, 3, 4, 6, 7], [48, 64, 256, 257, 258, 259, 352, 368, 640, 641, 642, 643, 928, 929, 930, 931, 1200, 1201, 1202, 1203]) else
  if f = 9 ∧ c = 0 then some ([2, 3], [32, 48, 304]) else
  if f = 10 ∧ c = 0 then some ([2, 3, 4], [32, 128, 129, 130, 131, 160]) else
  if f = 11 ∧ c = 0 then some ([1, 2, 3], [16, 32, 352, 353, 354, 355]) else
  if f = 12 ∧ c = 0 then some ([4, 5], [64, 144, 145, 146, 147, 176]) else
  if f = 13 ∧ c = 0 then some ([2, 4], [32, 64, 512, 513, 514, 515]) else
  if f = 15 ∧ c = 0 then some ([4, 5, 6], []) else
  if f = 18 ∧ c = 0 then some ([2, 3], [80, 304, 352]) else
  if f = 20 ∧ c = 0 then some ([4, 7], [480]) else
  if f = 21 ∧ c = 3 then some ([4, 9], [144, 416, 417, 418, 419, 592, 1984, 1985, 1986, 1987]) else
  if f = 29 ∧ c = 0 then some ([4], []) else
  if f = 30 ∧ c = 0 then some ([4], []) else
  if f = 39 ∧ c = 0 then some ([], []) else
  none
def splT (f t : Nat) : Nat :=
  0
def fnL : List Nat := [3, 4, 5, 6, 7, 8, 9, 10, 11, 12, 13, 14, 15, 16, 17, 18, 19, 20, 21, 22, 23, 24, 25, 26, 27, 28, 29, 30, 31, 32, 33, 34, 35, 36, 37, 38, 39, 40, 41, 42, 43, 44]
def cfg : Cfg := { isF := fun f => decide (f ∈ fnL), keep := keepT, dyn := dynT, byref := fun f => decide (f ∈ ([24] : List Nat)), thaw := fun f => decide (f ∈ ([23, 37, 38] : List Nat)), prim := fun _ => none, spl := splT, keepX := keepXT, inp := fun f => decide (f ∈ ([] : List Nat)) }
theorem tests : fnL.all (fnOkB Try.prog cfg) = true := by kernel_rfl
theorem mixed : Try.prog.follows .mixedOrders = true := by kernel_rfl
theorem fnOk {pk : PKs} (h : PKsOk Try.prog pk) (k : Nat) : FnOk Try.prog (evF Try.prog (cfg.with pk) k) := h.fn mixed (fun f hf => by simpa [cfg] using hf) tests k
end Go.Proofs.Ytlomiepgghlhbaa

