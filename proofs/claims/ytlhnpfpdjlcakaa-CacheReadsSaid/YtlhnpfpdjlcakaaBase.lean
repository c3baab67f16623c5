/- The setting: which functions are entered, in which regions the order is drawn, what a loop keeps. -/
import Derived.Test.YtlhnpfpdjlcakaaChecked
import Derived.Test.YtlhnpfpdjlcakaaAbLp
set_option linter.unusedVariables false
namespace Go.Proofs.Ytlhnpfpdjlcakaa
open Go Go.Ab

-- CODE 51 (*strings.Builder).copyCheck
-- NOBODY 53 internal/abi.NoEscape
-- NOBODY 54 internal/bytealg.MakeNoZero
abbrev boundsError_tfs : List Lf := [.fi .i64, .fi .i64, .fb, .fi .u8]
abbrev boundsError_T : Type := Int × Int × Bool × Int
abbrev errorAddressString_tfs : List Lf := [.fs, .fi .u64]
abbrev errorAddressString_T : Type := List UInt8 × Int
abbrev Write_tfs : List Lf := [.fi .i64, .fs]
abbrev Write_T : Type := Int × List UInt8
abbrev Picks_tfs : List Lf := [.fl false [.fi .u8], .fi .i64]
abbrev Picks_T : Type := (Bool × List (Int)) × Int
abbrev full_tfs : List Lf := []
abbrev full_T : Type := Unit
abbrev bad_tfs : List Lf := []
abbrev bad_T : Type := Unit
abbrev Cache_tfs : List Lf := [.fi .i64, .fi .i64, .fi .i64, .fs, .fl true Write_tfs, .fi .i64, .fb, .fb]
abbrev Cache_T : Type := Int × Int × Int × List UInt8 × (Bool × List Write_T) × Int × Bool × Bool
-- 3 tenancy/tenancylaw19.CacheAll
-- 4 tenancy/tenancylaw19.CacheReads
-- 5 tenancy/tenancylaw19.CacheForms
-- 6 tenancy/tenancylaw19.CacheLapse
-- 7 tenancy/tenancylaw19.CacheRoom
-- 8 tenancy/tenancylaw19.begun
-- 9 tenancy/tenancymade.Made
-- 10 (*tenancy/tenancymade.Picks).Cache
-- 11 tenancy/cache.Same
-- 12 tenancy/tenancyref19.SameCache
-- 13 tenancy/cache.View
-- 14 tenancy/tenancyref19.View
-- 15 tenancy/cache.Reset
-- 16 tenancy/tenancyref19.Reset
-- 17 tenancy/cache.Done
-- 18 tenancy/tenancyref19.Done
-- 19 tenancy/cache.Valid
-- 20 tenancy/tenancyref19.Valid
-- 21 tenancy/cache.Lapse
-- 22 tenancy/tenancyref19.Lapse
-- 23 tenancy/cache.Buffer
-- 24 tenancy/tenancyref19.Buffer
-- 25 tenancy/cache.Let
-- 26 tenancy/tenancyref19.Let
-- 27 tenancy/tenancyref7.PutWrite
-- 28 tenancy/tenancyref7.SameWrites
-- 29 (*tenancy/tenancymade.Picks).Write
-- 30 (*tenancy/tenancymade.Picks).Num
-- 31 slices.Equal[[]tenancy/api.Write,tenancy/api.Write]
-- 32 tenancy/file.All
-- 33 tenancy/tenancyref7.All
-- 34 tenancy/cache.twin
-- 35 slices.Clone[[]tenancy/api.Write,tenancy/api.Write]
-- 36 tenancy/cache.Buffer$1
-- 37 tenancy/file.May
-- 38 tenancy/tenancyref7.MayWrite
-- 39 tenancy/file.Put
-- 40 tenancy/file.kept
-- 41 strings.Repeat
-- 42 math/bits.Mul
-- 43 strings.HasPrefix
-- 44 (*strings.Builder).Grow
-- 45 (*strings.Builder).WriteString
-- 46 (*strings.Builder).Len
-- 47 (*strings.Builder).String
-- 48 math/bits.Mul32
-- 49 math/bits.Mul64
-- 50 internal/stringslite.HasPrefix
-- 51 (*strings.Builder).copyCheck
-- 52 (*strings.Builder).grow
def dynT (f id : Nat) : List (Nat × Nat) :=
  if f = 3 ∧ id = 6 then [(2, 3), (2, 4), (9, 10), (16, 17), (25, 26)] else
  if f = 3 ∧ id = 12 then [(5, 6), (5, 9), (5, 10), (19, 20), (19, 23), (19, 24)] else
  if f = 3 ∧ id = 18 then [(24, 25)] else
  if f = 4 ∧ id = 11 then [(6, 9), (6, 10), (6, 11), (2, 14), (3, 14), (4, 14), (6, 14), (2, 15), (3, 15), (4, 15), (6, 15), (2, 17), (3, 17), (4, 17), (6, 17), (9, 17), (10, 17), (11, 17), (14, 17), (15, 17)] else
  if f = 4 ∧ id = 28 then [(25, 26)] else
  if f = 5 ∧ id = 15 then [(74, 75), (85, 89), (86, 89)] else
  if f = 6 ∧ id = 10 then [(20, 21)] else
  if f = 7 ∧ id = 12 then [(45, 46), (45, 48), (47, 48)] else
  if f = 10 ∧ id = 3 then [(0, 2), (0, 5), (0, 7), (0, 9), (2, 9), (5, 9), (7, 9), (0, 11), (9, 11)] else
  if f = 10 ∧ id = 7 then [(0, 2)] else
  if f = 17 ∧ id = 5 then [(6, 7), (6, 8), (6, 10), (11, 13)] else
  if f = 24 ∧ id = 3 then [(0, 1), (0, 2), (0, 4), (3, 4), (0, 5), (1, 5), (2, 5), (3, 5)] else
  if f = 44 ∧ id = 3 then [(4, 6), (4, 7), (4, 8), (4, 9)] else
  if f = 47 ∧ id = 1 then [(4, 6), (4, 7), (4, 8), (4, 9)] else
  if f = 52 ∧ id = 0 then [(4, 10), (8, 10), (4, 11), (8, 11), (4, 12), (8, 12), (4, 13), (8, 13)] else
  []
def keepT (f c : Nat) : Option (List Nat × List Nat) :=
  if f = 3 ∧ c = 0 then some ([3, 4, 5, 6, 7, 17, 19, 21, 22], [272, 304, 864, 865, 866, 867, 1488, 1504]) else
  if f = 4 ∧ c = 0 then some ([0, 5, 6, 7], [80, 400, 401, 402, 403, 1008, 1009, 1010, 1011, 1152, 1153, 1154, 1155, 1360, 1361, 1362, 1363]) else
  if f = 7 ∧ c = 0 then some ([5, 6, 7], [80, 368, 369, 370, 371, 400, 401, 402, 403, 560, 561, 562, 563]) else
  if f = 10 ∧ c = 0 then some ([0, 2, 3, 4], [32, 48, 368, 369, 370, 371, 400, 401, 402, 403, 544, 545, 546, 547, 672, 673, 674, 675]) else
  if f = 27 ∧ c = 0 then some ([3, 5, 6], [48, 192, 464]) else
  if f = 27 ∧ c = 2 then some ([3, 5, 6], [48, 192, 464]) else
  if f = 28 ∧ c = 0 then some ([0, 1, 5], []) else
  if f = 31 ∧ c = 0 then some ([0, 1, 12, 13], []) else
  if f = 32 ∧ c = 0 then some ([0, 7, 8, 9], [240, 241, 242, 243]) else
  if f = 33 ∧ c = 0 then some ([0, 1, 5], [272, 273, 274, 275]) else
  if f = 41 ∧ c = 3 then some ([7, 8, 9], [144, 416, 417, 418, 419, 592]) else
  none
def keepXT (f c : Nat) : Option (List Nat × List Nat) :=
  if f = 3 ∧ c = 0 then some ([3, 4, 5, 6, 7, 17, 18, 19], [272, 304, 864, 865, 866, 867, 2624, 2625, 2626, 2627, 2784, 2785, 2786, 2787, 3024, 3025, 3026, 3027]) else
  if f = 4 ∧ c = 0 then some ([4, 5], [80, 400, 401, 402, 403, 1008, 1009, 1010, 1011, 1360, 1361, 1362, 1363, 2368, 2369, 2370, 2371]) else
  if f = 7 ∧ c = 0 then some ([4], []) else
  if f = 10 ∧ c = 0 then some ([0, 2, 3], [32, 48, 368, 369, 370, 371, 544, 545, 546, 547, 672, 673, 674, 675]) else
  if f = 27 ∧ c = 0 then some ([4, 5], [192, 464, 656]) else
  if f = 27 ∧ c = 2 then some ([3, 4, 5, 6], [48, 192, 464, 656]) else
  if f = 28 ∧ c = 0 then some ([4], []) else
  if f = 31 ∧ c = 0 then some ([4], []) else
  if f = 32 ∧ c = 0 then some ([0, 4], [240, 241, 242, 243]) else
  if f = 33 ∧ c = 0 then some ([0, 4], [272, 273, 274, 275]) else
  if f = 41 ∧ c = 3 then some ([4, 9], [144, 416, 417, 418, 419, 592, 1984, 1985, 1986, 1987]) else
  none
def splT (f t : Nat) : Nat :=
  0
def fnL : List Nat := [3, 4, 5, 6, 7, 8, 9, 10, 11, 12, 13, 14, 15, 16, 17, 18, 19, 20, 21, 22, 23, 24, 25, 26, 27, 28, 29, 30, 31, 32, 33, 34, 35, 36, 37, 38, 39, 40, 41, 42, 43, 44, 45, 46, 47, 48, 49, 50, 51, 52]
def cfg : Cfg := { isF := fun f => decide (f ∈ fnL), keep := keepT, dyn := dynT, byref := fun f => decide (f ∈ ([] : List Nat)), thaw := fun f => decide (f ∈ ([34, 35] : List Nat)), prim := fun _ => none, spl := splT, keepX := keepXT }
theorem tests : fnL.all (fnOkB Try.prog cfg) = true := by kernel_rfl
theorem mixed : Try.prog.follows .mixedOrders = true := by kernel_rfl
theorem fnOk {pk : PKs} (h : PKsOk Try.prog pk) (k : Nat) : FnOk Try.prog (evF Try.prog (cfg.with pk) k) := h.fn mixed (fun f hf => by simpa [cfg] using hf) tests k
end Go.Proofs.Ytlhnpfpdjlcakaa

