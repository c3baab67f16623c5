/- The setting: which functions are entered, in which regions the order is drawn, what a loop keeps. -/
import Derived.Test.YtjohkibidibihaaChecked
import Derived.Test.YtjohkibidibihaaAbLp
set_option linter.unusedVariables false
namespace Go.Proofs.Ytjohkibidibihaa
open Go Go.Ab

abbrev boundsError_tfs : List Lf := [.fi .i64, .fi .i64, .fb, .fi .u8]
abbrev boundsError_T : Type := Int × Int × Bool × Int
abbrev errorAddressString_tfs : List Lf := [.fs, .fi .u64]
abbrev errorAddressString_T : Type := List UInt8 × Int
abbrev Tell_tfs : List Lf := [.fi .i64, .fi .i64, .fi .i64, .fi .i64, .fi .i64, .fi .i64, .fi .i64, .fi .i64, .fs]
abbrev Tell_T : Type := Int × Int × Int × Int × Int × Int × Int × Int × List UInt8
abbrev Mark_tfs : List Lf := [.fi .i64, .fi .i64, .fi .i64, .fi .i64]
abbrev Mark_T : Type := Int × Int × Int × Int
abbrev Picks_tfs : List Lf := [.fl false [.fi .u8], .fi .i64]
abbrev Picks_T : Type := (Bool × List (Int)) × Int
abbrev Write_tfs : List Lf := [.fi .i64, .fs]
abbrev Write_T : Type := Int × List UInt8
abbrev Ask_tfs : List Lf := [.fi .i64, .fi .i64, .fi .i64, .fi .i64, .fs, .fi .i64, .fi .i64, .fl true Write_tfs]
abbrev Ask_T : Type := Int × Int × Int × Int × List UInt8 × Int × Int × (Bool × List Write_T)
abbrev Out_tfs : List Lf := [.fb, .fi .i64, .fi .i64, .fi .i64, .fi .i64, .fs, .fi .i64, .fi .i64, .fl true Write_tfs, .fi .i64, .fi .i64]
abbrev Out_T : Type := Bool × Int × Int × Int × Int × List UInt8 × Int × Int × (Bool × List Write_T) × Int × Int
-- 3 tenancy/tenancylaw17.SessAll
-- 4 tenancy/tenancylaw17.SessOnce
-- 5 tenancy/tenancylaw17.SessForms
-- 6 tenancy/tenancylaw17.SessNext
-- 7 tenancy/tenancylaw17.begun
-- 8 tenancy/tenancymade.Made
-- 9 (*tenancy/tenancymade.Picks).Ask
-- 10 tenancy/sess.Judge
-- 11 tenancy/tenancyref13.Judge
-- 12 tenancy/sess.Due
-- 13 tenancy/tenancyref13.Due
-- 14 (*tenancy/tenancymade.Picks).Num
-- 15 (*tenancy/tenancymade.Picks).Writes
-- 16 (*tenancy/tenancymade.Picks).Write
-- 17 tenancy/mark.Is
-- 18 tenancy/tenancyref7.IsMark
-- 19 tenancy/mark.there
def dynT (f id : Nat) : List (Nat × Nat) :=
  if f = 3 ∧ id = 12 then [(7, 9), (7, 10), (4, 12), (5, 12), (7, 12)] else
  if f = 3 ∧ id = 13 then [(5, 7), (5, 8), (2, 10), (3, 10), (5, 10)] else
  if f = 3 ∧ id = 18 then [(0, 2), (0, 3)] else
  if f = 3 ∧ id = 27 then [(0, 2), (2, 4), (3, 4), (0, 6), (2, 6), (3, 6), (4, 6), (10, 12), (18, 20)] else
  if f = 4 ∧ id = 5 then [(0, 1), (0, 2), (1, 2)] else
  if f = 4 ∧ id = 9 then [(6, 9), (6, 10), (6, 11), (2, 13), (3, 13), (4, 13), (6, 13)] else
  if f = 5 ∧ id = 9 then [(5, 20), (6, 20), (9, 20), (10, 20), (13, 20), (14, 20), (16, 20)] else
  if f = 6 ∧ id = 5 then [(0, 1), (0, 2), (1, 2)] else
  if f = 6 ∧ id = 11 then [(2, 11), (3, 11)] else
  []
def keepT (f c : Nat) : Option (List Nat × List Nat) :=
  if f = 3 ∧ c = 0 then some ([0, 4, 6, 7, 8, 10, 11, 12, 14, 19, 20, 21, 22], [160, 176, 192, 224, 736, 992, 1248]) else
  if f = 3 ∧ c = 2 then some ([4, 6, 7, 8, 19, 20, 21, 23, 24], [736, 992, 1248, 1472, 1473, 1474, 1475, 1488]) else
  if f = 4 ∧ c = 0 then some ([0, 3, 4, 5, 6], [304, 320, 336]) else
  if f = 5 ∧ c = 0 then some ([1, 2, 3, 4, 5, 6, 7, 8], [208, 256, 304, 320, 336, 352, 368]) else
  if f = 6 ∧ c = 0 then some ([0, 3, 4, 5, 6, 7], [96, 256, 272, 288]) else
  if f = 15 ∧ c = 0 then some ([0, 5, 6], [160, 161, 162, 163, 304]) else
  none
def keepXT (f c : Nat) : Option (List Nat × List Nat) :=
  if f = 3 ∧ c = 0 then some ([0, 4, 6, 7, 8, 14, 18, 19, 20, 21], [224, 736, 992, 1248]) else
  if f = 3 ∧ c = 2 then some ([6, 7, 8, 18], []) else
  if f = 4 ∧ c = 0 then some ([2], []) else
  if f = 5 ∧ c = 0 then some ([0], [1376, 1377, 1378, 1379]) else
  if f = 6 ∧ c = 0 then some ([2], []) else
  if f = 15 ∧ c = 0 then some ([4, 5], [304]) else
  none
def splT (f t : Nat) : Nat :=
  if f = 6 ∧ t = 31 then 3 else
  if f = 4 ∧ t = 34 then 3 else
  if f = 4 ∧ t = 60 then 1 else
  if f = 4 ∧ t = 13 then 1 else
  0
def fnL : List Nat := [3, 4, 5, 6, 7, 8, 9, 10, 11, 12, 13, 14, 15, 16, 17, 18, 19]
def cfg : Cfg := { isF := fun f => decide (f ∈ fnL), keep := keepT, dyn := dynT, byref := fun f => decide (f ∈ ([] : List Nat)), thaw := fun f => decide (f ∈ ([15] : List Nat)), prim := fun _ => none, spl := splT, keepX := keepXT }
theorem tests : fnL.all (fnOkB Try.prog cfg) = true := by kernel_rfl
theorem mixed : Try.prog.follows .mixedOrders = true := by kernel_rfl
theorem fnOk {pk : PKs} (h : PKsOk Try.prog pk) (k : Nat) : FnOk Try.prog (evF Try.prog (cfg.with pk) k) := h.fn mixed (fun f hf => by simpa [cfg] using hf) tests k
end Go.Proofs.Ytjohkibidibihaa

