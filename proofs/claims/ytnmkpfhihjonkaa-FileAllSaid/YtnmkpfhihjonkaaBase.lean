/- The setting: which functions are entered, in which regions the order is drawn, what a loop keeps. -/
import Derived.Test.YtnmkpfhihjonkaaChecked
import Derived.Test.YtnmkpfhihjonkaaAbLp
set_option linter.unusedVariables false
namespace Go.Proofs.Ytnmkpfhihjonkaa
open Go Go.Ab

-- CODE 29 (*strings.Builder).copyCheck
-- NOBODY 31 internal/abi.NoEscape
-- NOBODY 32 internal/bytealg.MakeNoZero
abbrev boundsError_tfs : List Lf := [.fi .i64, .fi .i64, .fb, .fi .u8]
abbrev boundsError_T : Type := Int × Int × Bool × Int
abbrev errorAddressString_tfs : List Lf := [.fs, .fi .u64]
abbrev errorAddressString_T : Type := List UInt8 × Int
abbrev Write_tfs : List Lf := [.fi .i64, .fs]
abbrev Write_T : Type := Int × List UInt8
abbrev Picks_tfs : List Lf := [.fl false [.fi .u8], .fi .i64]
abbrev Picks_T : Type := (Bool × List (Int)) × Int
abbrev bad_tfs : List Lf := []
abbrev bad_T : Type := Unit
-- 3 tenancy/tenancylaw7.FileAll
-- 4 tenancy/tenancylaw7.FileBytes
-- 5 tenancy/tenancylaw7.FileFronts
-- 6 tenancy/tenancylaw7.FileForms
-- 7 tenancy/tenancylaw7.begun
-- 8 tenancy/tenancymade.Made
-- 9 (*tenancy/tenancymade.Picks).Writes
-- 10 (*tenancy/tenancymade.Picks).Write
-- 11 tenancy/file.May
-- 12 tenancy/tenancyref7.MayWrite
-- 13 tenancy/file.Put
-- 14 tenancy/tenancyref7.PutWrite
-- 15 tenancy/file.All
-- 16 tenancy/tenancyref7.All
-- 17 (*tenancy/tenancymade.Picks).Num
-- 18 tenancy/file.kept
-- 19 strings.Repeat
-- 20 math/bits.Mul
-- 21 strings.HasPrefix
-- 22 (*strings.Builder).Grow
-- 23 (*strings.Builder).WriteString
-- 24 (*strings.Builder).Len
-- 25 (*strings.Builder).String
-- 26 math/bits.Mul32
-- 27 math/bits.Mul64
-- 28 internal/stringslite.HasPrefix
-- 29 (*strings.Builder).copyCheck
-- 30 (*strings.Builder).grow
def dynT (f id : Nat) : List (Nat × Nat) :=
  if f = 3 ∧ id = 6 then [(1, 2), (2, 4)] else
  if f = 3 ∧ id = 10 then [(4, 7), (4, 8), (17, 21), (17, 22)] else
  if f = 5 ∧ id = 8 then [(4, 7)] else
  if f = 22 ∧ id = 3 then [(4, 6), (4, 7), (4, 8), (4, 9)] else
  if f = 25 ∧ id = 1 then [(4, 6), (4, 7), (4, 8), (4, 9)] else
  if f = 30 ∧ id = 0 then [(4, 10), (8, 10), (4, 11), (8, 11), (4, 12), (8, 12), (4, 13), (8, 13)] else
  []
def keepT (f c : Nat) : Option (List Nat × List Nat) :=
  if f = 3 ∧ c = 0 then some ([0, 8, 9], [464, 465, 466, 467, 544]) else
  if f = 4 ∧ c = 0 then some ([7, 8, 9, 10, 11, 13], [416, 417, 418, 419, 464, 465, 466, 467, 544]) else
  if f = 6 ∧ c = 0 then some ([1, 2, 3], [160, 272]) else
  if f = 6 ∧ c = 2 then some ([2, 4], [272]) else
  if f = 9 ∧ c = 0 then some ([0, 5, 6], [160, 161, 162, 163, 304]) else
  if f = 14 ∧ c = 0 then some ([3, 5, 6], [48, 192, 464]) else
  if f = 14 ∧ c = 2 then some ([3, 5, 6], [48, 192, 464]) else
  if f = 15 ∧ c = 0 then some ([0, 7, 8, 9], [240, 241, 242, 243]) else
  if f = 16 ∧ c = 0 then some ([0, 1, 5], [272, 273, 274, 275]) else
  if f = 19 ∧ c = 3 then some ([7, 8, 9], [144, 416, 417, 418, 419, 592]) else
  none
def keepXT (f c : Nat) : Option (List Nat × List Nat) :=
  if f = 3 ∧ c = 0 then some ([0, 6, 8], [464, 465, 466, 467, 544]) else
  if f = 4 ∧ c = 0 then some ([6, 8, 9, 10, 11], [464, 465, 466, 467, 544]) else
  if f = 6 ∧ c = 0 then some ([0, 2], [272]) else
  if f = 6 ∧ c = 2 then some ([0], []) else
  if f = 9 ∧ c = 0 then some ([4, 5], [304]) else
  if f = 14 ∧ c = 0 then some ([4, 5], [192, 464, 656]) else
  if f = 14 ∧ c = 2 then some ([3, 4, 5, 6], [48, 192, 464, 656]) else
  if f = 15 ∧ c = 0 then some ([0, 4], [240, 241, 242, 243]) else
  if f = 16 ∧ c = 0 then some ([0, 4], [272, 273, 274, 275]) else
  if f = 19 ∧ c = 3 then some ([4, 9], [144, 416, 417, 418, 419, 592, 1984, 1985, 1986, 1987]) else
  none
def splT (f t : Nat) : Nat :=
  0
def fnL : List Nat := [3, 4, 5, 6, 7, 8, 9, 10, 11, 12, 13, 14, 15, 16, 17, 18, 19, 20, 21, 22, 23, 24, 25, 26, 27, 28, 29, 30]
def cfg : Cfg := { isF := fun f => decide (f ∈ fnL), keep := keepT, dyn := dynT, byref := fun f => decide (f ∈ ([] : List Nat)), thaw := fun f => decide (f ∈ ([9] : List Nat)), prim := fun _ => none, spl := splT, keepX := keepXT }
theorem tests : fnL.all (fnOkB Try.prog cfg) = true := by kernel_rfl
theorem mixed : Try.prog.follows .mixedOrders = true := by kernel_rfl
theorem fnOk {pk : PKs} (h : PKsOk Try.prog pk) (k : Nat) : FnOk Try.prog (evF Try.prog (cfg.with pk) k) := h.fn mixed (fun f hf => by simpa [cfg] using hf) tests k
end Go.Proofs.Ytnmkpfhihjonkaa

