/- The setting: which functions are entered, in which regions the order is drawn, what a loop keeps. -/
import Derived.Test.YtbfiepkelafgeaaChecked
import Derived.Test.YtbfiepkelafgeaaAbLp
set_option linter.unusedVariables false
namespace Go.Proofs.Ytbfiepkelafgeaa
open Go Go.Ab

abbrev boundsError_tfs : List Lf := [.fi .i64, .fi .i64, .fb, .fi .u8]
abbrev boundsError_T : Type := Int × Int × Bool × Int
abbrev errorAddressString_tfs : List Lf := [.fs, .fi .u64]
abbrev errorAddressString_T : Type := List UInt8 × Int
abbrev File_tfs : List Lf := [.fs, .fi .i64, .fs]
abbrev File_T : Type := List UInt8 × Int × List UInt8
abbrev Picks_tfs : List Lf := [.fl false [.fi .u8], .fi .i64]
abbrev Picks_T : Type := (Bool × List (Int)) × Int
abbrev Mark_tfs : List Lf := [.fi .i64, .fi .i64, .fi .i64, .fi .i64]
abbrev Mark_T : Type := Int × Int × Int × Int
abbrev Write_tfs : List Lf := [.fi .i64, .fs]
abbrev Write_T : Type := Int × List UInt8
abbrev State_tfs : List Lf := [.fl true File_tfs, .fl true Mark_tfs, .fi .i64]
abbrev State_T : Type := (Bool × List File_T) × (Bool × List Mark_T) × Int
-- 3 tenancy/tenancylaw8.DirAll
-- 4 tenancy/tenancylaw8.DirForms
-- 5 tenancy/tenancylaw8.DirOnce
-- 6 tenancy/tenancylaw8.begun
-- 7 tenancy/tenancymade.Made
-- 8 (*tenancy/tenancymade.Picks).State
-- 9 (*tenancy/tenancymade.Picks).Name
-- 10 tenancy/dir.Find
-- 11 tenancy/tenancyref7.Find
-- 12 tenancy/dir.May
-- 13 tenancy/tenancyref7.MayName
-- 14 tenancy/dir.Room
-- 15 tenancy/tenancyref7.Room
-- 16 tenancy/tenancyref7.NewState
-- 17 (*tenancy/tenancymade.Picks).Over
-- 18 (*tenancy/tenancymade.Picks).Num
-- 19 tenancy/tenancyref7.Open
-- 20 tenancy/tenancyref7.Flush
-- 21 (*tenancy/tenancymade.Picks).Writes
-- 22 tenancy/tenancyref7.Gone
-- 23 tenancy/tenancyref7.Boot
-- 24 tenancy/dir.number
-- 25 tenancy/tenancyref7.marked
-- 26 tenancy/tenancyref7.Is
-- 27 tenancy/tenancyref7.MayWrite
-- 28 tenancy/tenancyref7.All
-- 29 (*tenancy/tenancymade.Picks).Write
-- 30 slices.IndexFunc[[]tenancy/api.File,tenancy/api.File]
-- 31 tenancy/dir.number$1
-- 32 tenancy/tenancyref7.PutMark
-- 33 tenancy/tenancyref7.PutWrite
def dynT (f id : Nat) : List (Nat × Nat) :=
  if f = 3 ∧ id = 20 then [(14, 18), (14, 19)] else
  if f = 8 ∧ id = 6 then [(0, 8), (1, 8), (4, 8), (5, 8), (6, 8)] else
  if f = 8 ∧ id = 8 then [(0, 5), (3, 5)] else
  if f = 8 ∧ id = 12 then [(0, 5), (3, 5)] else
  if f = 8 ∧ id = 15 then [(0, 5), (3, 5), (0, 8), (3, 8)] else
  if f = 16 ∧ id = 1 then [(0, 1)] else
  if f = 19 ∧ id = 7 then [(1, 9), (2, 9), (5, 9), (6, 9), (7, 9)] else
  if f = 20 ∧ id = 14 then [(3, 4), (3, 5), (3, 7), (7, 9)] else
  if f = 20 ∧ id = 15 then [(1, 4), (2, 4)] else
  if f = 25 ∧ id = 5 then [(1, 2)] else
  []
def keepT (f c : Nat) : Option (List Nat × List Nat) :=
  if f = 3 ∧ c = 0 then some ([1, 2, 3, 9, 10, 11], [144, 656, 657, 658, 659, 976]) else
  if f = 3 ∧ c = 2 then some ([12, 13, 14], [656, 657, 658, 659, 976, 1056, 1057, 1058, 1059, 1072, 1136]) else
  if f = 3 ∧ c = 4 then some ([13, 19], [656, 657, 658, 659, 976, 1136]) else
  if f = 4 ∧ c = 0 then some ([1, 2, 3], [208, 224]) else
  if f = 4 ∧ c = 2 then some ([2, 4], [224]) else
  if f = 5 ∧ c = 0 then some ([0, 1, 5, 6, 7, 8], [704]) else
  if f = 8 ∧ c = 0 then some ([0, 1, 4, 5, 6], [64, 80, 144, 145, 146, 147, 688, 689, 690, 691, 912, 913, 914, 915, 1168, 1169, 1170, 1171, 1280, 1281, 1282, 1283]) else
  if f = 11 ∧ c = 0 then some ([0, 1, 6], []) else
  if f = 12 ∧ c = 0 then some ([0, 6, 7, 8], [96]) else
  if f = 13 ∧ c = 0 then some ([0, 3], []) else
  if f = 15 ∧ c = 0 then some ([0, 4], []) else
  if f = 20 ∧ c = 0 then some ([1, 3, 4, 5, 10, 11, 12, 13, 14], [80, 160, 176, 192, 432, 433, 434, 435, 800, 801, 802, 803, 944, 945, 946, 947, 1136, 1137, 1138, 1139, 1408, 1409, 1410, 1411]) else
  if f = 21 ∧ c = 0 then some ([0, 5, 6], [160, 161, 162, 163, 304]) else
  if f = 28 ∧ c = 0 then some ([0, 1, 5], [272, 273, 274, 275]) else
  if f = 30 ∧ c = 0 then some ([0, 1, 7, 8], []) else
  if f = 33 ∧ c = 0 then some ([3, 5, 6], [48, 192, 464]) else
  if f = 33 ∧ c = 2 then some ([3, 5, 6], [48, 192, 464]) else
  none
def keepXT (f c : Nat) : Option (List Nat × List Nat) :=
  if f = 3 ∧ c = 0 then some ([1, 2, 8, 9, 10], [144, 656, 657, 658, 659, 976]) else
  if f = 3 ∧ c = 2 then some ([8, 13], [656, 657, 658, 659, 976, 1136]) else
  if f = 3 ∧ c = 4 then some ([8], []) else
  if f = 4 ∧ c = 0 then some ([0, 2], [224, 784, 785, 786, 787]) else
  if f = 4 ∧ c = 2 then some ([0], [784, 785, 786, 787]) else
  if f = 5 ∧ c = 0 then some ([1, 4, 5, 6, 7], [704]) else
  if f = 8 ∧ c = 0 then some ([4, 5], [64, 80, 144, 145, 146, 147, 688, 689, 690, 691, 912, 913, 914, 915, 1168, 1169, 1170, 1171, 1280, 1281, 1282, 1283]) else
  if f = 11 ∧ c = 0 then some ([4, 5], []) else
  if f = 12 ∧ c = 0 then some ([0, 2], []) else
  if f = 13 ∧ c = 0 then some ([0, 2], []) else
  if f = 15 ∧ c = 0 then some ([2, 3], []) else
  if f = 20 ∧ c = 0 then some ([1, 3, 4, 5, 10, 11, 12, 13], [80, 160, 176, 192, 432, 433, 434, 435, 800, 801, 802, 803, 944, 945, 946, 947, 1136, 1137, 1138, 1139, 1408, 1409, 1410, 1411]) else
  if f = 21 ∧ c = 0 then some ([4, 5], [304]) else
  if f = 28 ∧ c = 0 then some ([0, 4], [272, 273, 274, 275]) else
  if f = 30 ∧ c = 0 then some ([4], []) else
  if f = 33 ∧ c = 0 then some ([4, 5], [192, 464, 656]) else
  if f = 33 ∧ c = 2 then some ([3, 4, 5, 6], [48, 192, 464, 656]) else
  none
def splT (f t : Nat) : Nat :=
  0
def fnL : List Nat := [3, 4, 5, 6, 7, 8, 9, 10, 11, 12, 13, 14, 15, 16, 17, 18, 19, 20, 21, 22, 23, 24, 25, 26, 27, 28, 29, 30, 31, 32, 33]
def cfg : Cfg := { isF := fun f => decide (f ∈ fnL), keep := keepT, dyn := dynT, byref := fun f => decide (f ∈ ([] : List Nat)), thaw := fun f => decide (f ∈ ([21] : List Nat)), prim := fun _ => none, spl := splT, keepX := keepXT }
theorem tests : fnL.all (fnOkB Try.prog cfg) = true := by kernel_rfl
theorem mixed : Try.prog.follows .mixedOrders = true := by kernel_rfl
theorem fnOk {pk : PKs} (h : PKsOk Try.prog pk) (k : Nat) : FnOk Try.prog (evF Try.prog (cfg.with pk) k) := h.fn mixed (fun f hf => by simpa [cfg] using hf) tests k
end Go.Proofs.Ytbfiepkelafgeaa

