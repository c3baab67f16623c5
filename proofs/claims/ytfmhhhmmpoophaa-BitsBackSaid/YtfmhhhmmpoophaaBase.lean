/- The setting: which functions are entered, in which regions the order is drawn, what a loop keeps. -/
import Derived.Test.YtfmhhhmmpoophaaChecked
import Derived.Test.YtfmhhhmmpoophaaAbLp
set_option linter.unusedVariables false
namespace Go.Proofs.Ytfmhhhmmpoophaa
open Go Go.Ab

abbrev boundsError_tfs : List Lf := [.fi .i64, .fi .i64, .fb, .fi .u8]
abbrev boundsError_T : Type := Int × Int × Bool × Int
abbrev errorAddressString_tfs : List Lf := [.fs, .fi .u64]
abbrev errorAddressString_T : Type := List UInt8 × Int
abbrev short_tfs : List Lf := []
abbrev short_T : Type := Unit
-- 3 tenancy/tenancylaw4.BitsAll
-- 4 tenancy/tenancylaw4.BitsBack
-- 5 tenancy/tenancylaw4.BitsForms
-- 6 tenancy/tenancylaw4.begun
-- 7 tenancy/bits.Take
-- 8 tenancy/tenancyref1.Take
-- 9 tenancy/bits.Put
-- 10 tenancy/tenancyref1.Put
-- 11 tenancy/bits.TakeText
-- 12 tenancy/tenancyref1.TakeText
-- 13 tenancy/bits.Text
-- 14 tenancy/tenancyref1.Text
-- 15 tenancy/bits.caught
-- 16 tenancy/bits.front
-- 17 slices.Clone[[]byte,byte]
def dynT (f id : Nat) : List (Nat × Nat) :=
  if f = 3 ∧ id = 11 then [(6, 12), (7, 12), (6, 13), (7, 13), (7, 14), (7, 15)] else
  if f = 3 ∧ id = 15 then [(3, 6), (3, 7)] else
  []
def keepT (f c : Nat) : Option (List Nat × List Nat) :=
  if f = 3 ∧ c = 0 then some ([0, 3, 4, 5, 13, 14], [688, 704]) else
  if f = 7 ∧ c = 0 then some ([4, 5, 16, 17, 18], [80, 256, 257, 258, 259]) else
  if f = 8 ∧ c = 0 then some ([0, 1, 6, 7], []) else
  if f = 9 ∧ c = 0 then some ([0, 1, 2], [128, 129, 130, 131, 464]) else
  if f = 10 ∧ c = 0 then some ([1, 7, 8], [144, 176, 512]) else
  none
def keepXT (f c : Nat) : Option (List Nat × List Nat) :=
  if f = 3 ∧ c = 0 then some ([3, 4, 5, 12], []) else
  if f = 7 ∧ c = 0 then some ([4, 5], [80]) else
  if f = 8 ∧ c = 0 then some ([4, 5, 6], []) else
  if f = 9 ∧ c = 0 then some ([0, 6], [128, 129, 130, 131, 464]) else
  if f = 10 ∧ c = 0 then some ([6, 7], [144, 176, 512]) else
  none
def splT (f t : Nat) : Nat :=
  if f = 9 ∧ t = 17 then 8 else
  if f = 10 ∧ t = 20 then 8 else
  0
def fnL : List Nat := [3, 4, 5, 6, 7, 8, 9, 10, 11, 12, 13, 14, 15, 16, 17]
def cfg : Cfg := { isF := fun f => decide (f ∈ fnL), keep := keepT, dyn := dynT, byref := fun f => decide (f ∈ ([] : List Nat)), thaw := fun f => decide (f ∈ ([17] : List Nat)), prim := fun _ => none, spl := splT, keepX := keepXT }
theorem tests : fnL.all (fnOkB Try.prog cfg) = true := by kernel_rfl
theorem mixed : Try.prog.follows .mixedOrders = true := by kernel_rfl
theorem fnOk {pk : PKs} (h : PKsOk Try.prog pk) (k : Nat) : FnOk Try.prog (evF Try.prog (cfg.with pk) k) := h.fn mixed (fun f hf => by simpa [cfg] using hf) tests k
end Go.Proofs.Ytfmhhhmmpoophaa

