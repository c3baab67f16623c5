/- The setting: which functions are entered, in which regions the order is drawn, what a loop keeps. -/
import Derived.Test.YthdmjojanccjfaaChecked
import Derived.Test.YthdmjojanccjfaaAbLp
set_option linter.unusedVariables false
namespace Go.Proofs.Ythdmjojanccjfaa
open Go Go.Ab

abbrev boundsError_tfs : List Lf := [.fi .i64, .fi .i64, .fb, .fi .u8]
abbrev boundsError_T : Type := Int × Int × Bool × Int
abbrev errorAddressString_tfs : List Lf := [.fs, .fi .u64]
abbrev errorAddressString_T : Type := List UInt8 × Int
abbrev Mark_tfs : List Lf := [.fi .i64, .fi .i64, .fi .i64, .fi .i64]
abbrev Mark_T : Type := Int × Int × Int × Int
abbrev File_tfs : List Lf := [.fs, .fi .i64, .fs]
abbrev File_T : Type := List UInt8 × Int × List UInt8
abbrev State_tfs : List Lf := [.fl true File_tfs, .fl true Mark_tfs, .fi .i64]
abbrev State_T : Type := (Bool × List File_T) × (Bool × List Mark_T) × Int
-- 3 tenancy/tenancylaw9.MarkAll
-- 4 tenancy/tenancylaw9.MarkLast
-- 5 tenancy/tenancylaw9.MarkForms
-- 6 tenancy/tenancylaw9.begun
-- 7 tenancy/mark.New
-- 8 tenancy/tenancyref7.NewState
-- 9 tenancy/mark.Put
-- 10 tenancy/tenancyref7.PutMark
-- 11 tenancy/tenancyref7.SameMarks
-- 12 tenancy/mark.Is
-- 13 tenancy/tenancyref7.IsMark
-- 14 slices.Clone[[]tenancy/api.Mark,tenancy/api.Mark]
-- 15 tenancy/mark.there
def dynT (f id : Nat) : List (Nat × Nat) :=
  if f = 3 ∧ id = 10 then [(6, 9), (6, 10), (6, 11), (2, 13), (3, 13), (4, 13), (6, 13), (6, 16), (13, 16), (6, 17), (13, 17), (6, 18), (13, 18), (2, 20), (3, 20), (4, 20), (6, 20), (9, 20), (10, 20), (11, 20), (13, 20), (2, 23), (3, 23), (4, 23), (6, 23), (9, 23), (10, 23), (11, 23), (13, 23), (16, 23), (17, 23), (18, 23), (20, 23)] else
  if f = 3 ∧ id = 11 then [(3, 6)] else
  if f = 3 ∧ id = 23 then [(12, 15), (21, 24)] else
  if f = 4 ∧ id = 10 then [(6, 10), (6, 11), (6, 12), (2, 14), (3, 14), (4, 14), (6, 14)] else
  if f = 8 ∧ id = 1 then [(0, 1)] else
  []
def keepT (f c : Nat) : Option (List Nat × List Nat) :=
  if f = 3 ∧ c = 0 then some ([0, 2, 3, 4, 6, 11, 12, 13], [96, 544, 545, 546, 547, 560, 561, 562, 563, 1232, 1233, 1234, 1235, 1296, 1297, 1298, 1299]) else
  if f = 3 ∧ c = 2 then some ([0, 2, 3, 4, 6, 11, 12, 13, 14, 16], [96, 544, 545, 546, 547, 560, 561, 562, 563, 1232, 1233, 1234, 1235, 1296, 1297, 1298, 1299]) else
  if f = 4 ∧ c = 0 then some ([0, 3, 4, 5], [64, 272, 273, 274, 275, 720, 721, 722, 723]) else
  if f = 4 ∧ c = 2 then some ([0, 3, 4, 5, 8], [64, 272, 273, 274, 275, 720, 721, 722, 723]) else
  if f = 4 ∧ c = 4 then some ([0, 3, 4, 5, 8, 9], [64, 272, 273, 274, 275, 720, 721, 722, 723]) else
  if f = 11 ∧ c = 0 then some ([0, 1, 5], []) else
  none
def keepXT (f c : Nat) : Option (List Nat × List Nat) :=
  if f = 3 ∧ c = 0 then some ([2, 3, 4, 6, 10, 11, 12], [96, 544, 545, 546, 547, 560, 561, 562, 563, 1232, 1233, 1234, 1235, 1296, 1297, 1298, 1299, 2288, 2289, 2290, 2291]) else
  if f = 3 ∧ c = 2 then some ([0, 2, 3, 4, 6, 10, 11, 12, 13], [96, 544, 545, 546, 547, 560, 561, 562, 563, 1232, 1233, 1234, 1235, 1296, 1297, 1298, 1299, 2288, 2289, 2290, 2291]) else
  if f = 4 ∧ c = 0 then some ([2, 3], [272, 273, 274, 275, 720, 721, 722, 723]) else
  if f = 4 ∧ c = 2 then some ([0, 2, 3, 4, 5], [64, 272, 273, 274, 275, 720, 721, 722, 723]) else
  if f = 4 ∧ c = 4 then some ([0, 2, 3, 4, 5, 8], [64, 272, 273, 274, 275, 720, 721, 722, 723]) else
  if f = 11 ∧ c = 0 then some ([4], []) else
  none
def splT (f t : Nat) : Nat :=
  if f = 4 ∧ t = 31 then 4 else
  0
def fnL : List Nat := [3, 4, 5, 6, 7, 8, 9, 10, 11, 12, 13, 14, 15]
def cfg : Cfg := { isF := fun f => decide (f ∈ fnL), keep := keepT, dyn := dynT, byref := fun f => decide (f ∈ ([] : List Nat)), thaw := fun f => decide (f ∈ ([14] : List Nat)), prim := fun _ => none, spl := splT, keepX := keepXT }
theorem tests : fnL.all (fnOkB Try.prog cfg) = true := by kernel_rfl
theorem mixed : Try.prog.follows .mixedOrders = true := by kernel_rfl
theorem fnOk {pk : PKs} (h : PKsOk Try.prog pk) (k : Nat) : FnOk Try.prog (evF Try.prog (cfg.with pk) k) := h.fn mixed (fun f hf => by simpa [cfg] using hf) tests k
end Go.Proofs.Ythdmjojanccjfaa

