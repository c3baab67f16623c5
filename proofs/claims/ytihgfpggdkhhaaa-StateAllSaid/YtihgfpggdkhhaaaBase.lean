/- The setting: which functions are entered, in which regions the order is drawn, what a loop keeps. -/
import Derived.Test.YtihgfpggdkhhaaaChecked
import Derived.Test.YtihgfpggdkhhaaaAbAny
set_option linter.unusedVariables false
namespace Go.Proofs.Ytihgfpggdkhhaaa
open Go Go.Ab

-- CODE 88 (*strings.Builder).copyCheck
-- NOBODY 90 internal/abi.NoEscape
-- NOBODY 91 internal/bytealg.MakeNoZero
abbrev boundsError_tfs : List Lf := [.fi .i64, .fi .i64, .fb, .fi .u8]
abbrev boundsError_T : Type := Int × Int × Bool × Int
abbrev errorAddressString_tfs : List Lf := [.fs, .fi .u64]
abbrev errorAddressString_T : Type := List UInt8 × Int
abbrev Write_tfs : List Lf := [.fi .i64, .fs]
abbrev Write_T : Type := Int × List UInt8
abbrev Mark_tfs : List Lf := [.fi .i64, .fi .i64, .fi .i64, .fi .i64]
abbrev Mark_T : Type := Int × Int × Int × Int
abbrev File_tfs : List Lf := [.fs, .fi .i64, .fs]
abbrev File_T : Type := List UInt8 × Int × List UInt8
abbrev Picks_tfs : List Lf := [.fl false [.fi .u8], .fi .i64]
abbrev Picks_T : Type := (Bool × List (Int)) × Int
abbrev refused_tfs : List Lf := [.fi .i64]
abbrev refused_T : Type := Int
abbrev bad_tfs : List Lf := []
abbrev bad_T : Type := Unit
abbrev State_tfs : List Lf := [.fl true File_tfs, .fl true Mark_tfs, .fi .i64]
abbrev State_T : Type := (Bool × List File_T) × (Bool × List Mark_T) × Int
-- 3 tenancy/tenancylaw10.StateAll
-- 4 tenancy/tenancylaw10.StateNames
-- 5 tenancy/tenancylaw10.StateMarks
-- 6 tenancy/tenancylaw10.StateForms
-- 7 tenancy/tenancylaw10.StateApart
-- 8 tenancy/tenancylaw10.StateBoots
-- 9 tenancy/tenancylaw10.begun
-- 10 tenancy/tenancymade.Made
-- 11 (*tenancy/tenancymade.Picks).State
-- 12 (*tenancy/tenancymade.Picks).Name
-- 13 (*tenancy/tenancymade.Picks).Writes
-- 14 tenancy/state.Open
-- 15 tenancy/tenancyref7.Open
-- 16 tenancy/state.Flush
-- 17 tenancy/tenancyref7.Flush
-- 18 tenancy/tenancyref7.SameState
-- 19 tenancy/state.Gone
-- 20 tenancy/tenancyref7.Gone
-- 21 tenancy/tenancylaw10.turned
-- 22 tenancy/state.Boot
-- 23 tenancy/tenancyref7.Boot
-- 24 tenancy/state.May
-- 25 tenancy/tenancyref7.MayState
-- 26 tenancy/state.Same
-- 27 tenancy/state.New
-- 28 tenancy/tenancyref7.NewState
-- 29 (*tenancy/tenancymade.Picks).Num
-- 30 (*tenancy/tenancymade.Picks).Write
-- 31 (*tenancy/tenancymade.Picks).Over
-- 32 tenancy/state.work
-- 33 tenancy/state.Open$1
-- 34 tenancy/dir.May
-- 35 tenancy/dir.Find
-- 36 tenancy/dir.Room
-- 37 tenancy/tenancyref7.MayName
-- 38 tenancy/tenancyref7.marked
-- 39 tenancy/tenancyref7.Find
-- 40 tenancy/tenancyref7.Room
-- 41 tenancy/state.Flush$1
-- 42 tenancy/state.there
-- 43 slices.ContainsFunc[[]tenancy/api.Write,tenancy/api.Write]
-- 44 tenancy/state.Flush$1$1
-- 45 tenancy/file.May
-- 46 tenancy/file.All
-- 47 tenancy/tenancyref7.Is
-- 48 tenancy/tenancyref7.MayWrite
-- 49 tenancy/tenancyref7.All
-- 50 tenancy/tenancyref7.SameMarks
-- 51 tenancy/state.Gone$1
-- 52 tenancy/state.twin
-- 53 tenancy/state.number
-- 54 tenancy/state.May$1
-- 55 tenancy/state.mayFile
-- 56 slices.ContainsFunc[[]tenancy/api.File,tenancy/api.File]
-- 57 slices.ContainsFunc[[]tenancy/api.Mark,tenancy/api.Mark]
-- 58 tenancy/state.May$2
-- 59 tenancy/state.mayMark
-- 60 tenancy/tenancyref7.num
-- 61 slices.Equal[[]tenancy/api.File,tenancy/api.File]
-- 62 slices.Equal[[]tenancy/api.Mark,tenancy/api.Mark]
-- 63 tenancy/mark.New
-- 64 tenancy/state.work$1
-- 65 tenancy/mark.Put
-- 66 tenancy/dir.number
-- 67 tenancy/tenancyref7.PutMark
-- 68 slices.IndexFunc[[]tenancy/api.Write,tenancy/api.Write]
-- 69 tenancy/file.Put
-- 70 tenancy/tenancyref7.PutWrite
-- 71 slices.Clone[[]tenancy/api.File,tenancy/api.File]
-- 72 slices.Clone[[]tenancy/api.Mark,tenancy/api.Mark]
-- 73 slices.IndexFunc[[]tenancy/api.File,tenancy/api.File]
-- 74 slices.IndexFunc[[]tenancy/api.Mark,tenancy/api.Mark]
-- 75 tenancy/mark.there
-- 76 tenancy/dir.number$1
-- 77 tenancy/file.kept
-- 78 strings.Repeat
-- 79 math/bits.Mul
-- 80 strings.HasPrefix
-- 81 (*strings.Builder).Grow
-- 82 (*strings.Builder).WriteString
-- 83 (*strings.Builder).Len
-- 84 (*strings.Builder).String
-- 85 math/bits.Mul32
-- 86 math/bits.Mul64
-- 87 internal/stringslite.HasPrefix
-- 88 (*strings.Builder).copyCheck
-- 89 (*strings.Builder).grow
def dynT (f id : Nat) : List (Nat × Nat) :=
  if f = 3 ∧ id = 18 then [(0, 12), (6, 12), (7, 12), (8, 12), (0, 13), (6, 13), (7, 13), (8, 13), (12, 13)] else
  if f = 3 ∧ id = 19 then [(0, 12), (6, 12), (7, 12), (8, 12), (0, 13), (6, 13), (7, 13), (8, 13), (12, 13)] else
  if f = 3 ∧ id = 20 then [(0, 12), (6, 12), (7, 12), (8, 12), (0, 13), (6, 13), (7, 13), (8, 13), (12, 13)] else
  if f = 3 ∧ id = 21 then [(0, 12), (6, 12), (7, 12), (8, 12), (0, 13), (6, 13), (7, 13), (8, 13), (12, 13)] else
  if f = 3 ∧ id = 27 then [(10, 11), (21, 22), (29, 30), (29, 31)] else
  if f = 5 ∧ id = 8 then [(0, 4), (0, 9), (4, 9), (5, 9), (0, 10), (4, 10), (5, 10), (9, 10)] else
  if f = 5 ∧ id = 9 then [(0, 4), (0, 7), (0, 9), (0, 10), (0, 11), (0, 16), (4, 16), (7, 16), (9, 16), (10, 16), (11, 16), (12, 16), (0, 17), (4, 17), (7, 17), (9, 17), (10, 17), (11, 17), (12, 17), (16, 17)] else
  if f = 5 ∧ id = 15 then [(0, 12), (1, 12), (4, 12), (5, 12), (6, 12), (7, 12), (10, 12), (11, 12), (0, 13), (1, 13), (4, 13), (5, 13), (6, 13), (7, 13), (10, 13), (11, 13), (12, 13), (6, 14), (7, 14), (10, 14), (11, 14)] else
  if f = 5 ∧ id = 17 then [(1, 2)] else
  if f = 6 ∧ id = 9 then [(0, 11), (5, 11), (6, 11), (7, 11), (0, 12), (5, 12), (6, 12), (7, 12), (11, 12)] else
  if f = 7 ∧ id = 8 then [(0, 3), (0, 5), (0, 6), (0, 7), (0, 12), (3, 12), (5, 12), (6, 12), (7, 12), (8, 12), (0, 13), (3, 13), (5, 13), (6, 13), (7, 13), (8, 13), (12, 13)] else
  if f = 7 ∧ id = 10 then [(0, 2), (0, 7), (2, 7), (3, 7), (0, 8), (2, 8), (3, 8), (7, 8)] else
  if f = 11 ∧ id = 6 then [(0, 8), (1, 8), (4, 8), (5, 8), (6, 8)] else
  if f = 11 ∧ id = 8 then [(0, 5), (3, 5)] else
  if f = 11 ∧ id = 12 then [(0, 5), (3, 5)] else
  if f = 11 ∧ id = 15 then [(0, 5), (3, 5), (0, 8), (3, 8)] else
  if f = 15 ∧ id = 7 then [(1, 9), (2, 9), (5, 9), (6, 9), (7, 9)] else
  if f = 17 ∧ id = 14 then [(3, 4), (3, 5), (3, 7), (7, 9)] else
  if f = 17 ∧ id = 15 then [(1, 4), (2, 4)] else
  if f = 21 ∧ id = 1 then [(0, 1), (0, 2), (0, 4), (1, 4), (2, 4), (3, 4), (0, 5), (3, 5), (4, 5), (0, 6), (3, 6), (4, 6), (4, 8), (7, 8)] else
  if f = 27 ∧ id = 1 then [(0, 1)] else
  if f = 28 ∧ id = 1 then [(0, 1)] else
  if f = 32 ∧ id = 4 then [(1, 2)] else
  if f = 38 ∧ id = 5 then [(1, 2)] else
  if f = 41 ∧ id = 4 then [(7, 9), (7, 10), (7, 11), (7, 13), (13, 16)] else
  if f = 52 ∧ id = 1 then [(2, 3), (2, 4), (5, 6)] else
  if f = 64 ∧ id = 5 then [(1, 2), (1, 3), (2, 5), (3, 5)] else
  if f = 81 ∧ id = 3 then [(4, 6), (4, 7), (4, 8), (4, 9)] else
  if f = 84 ∧ id = 1 then [(4, 6), (4, 7), (4, 8), (4, 9)] else
  if f = 89 ∧ id = 0 then [(4, 10), (8, 10), (4, 11), (8, 11), (4, 12), (8, 12), (4, 13), (8, 13)] else
  []
def keepT (f c : Nat) : Option (List Nat × List Nat) :=
  if f = 3 ∧ c = 0 then some ([0, 1, 2, 3, 4, 5, 6, 7, 8, 19], []) else
  if f = 3 ∧ c = 2 then some ([7, 8, 20, 21, 22, 23, 25, 26, 27], [320, 1216, 1217, 1218, 1219, 1472, 1473, 1474, 1475, 1488, 1536, 1537, 1538, 1539, 1552]) else
  if f = 4 ∧ c = 0 then some ([0, 3, 4, 5], [48, 320, 321, 322, 323, 880, 881, 882, 883, 1936, 1937, 1938, 1939]) else
  if f = 4 ∧ c = 2 then some ([0, 3, 4, 5, 13, 14], [48, 320, 321, 322, 323, 880, 881, 882, 883, 1936, 1937, 1938, 1939]) else
  if f = 5 ∧ c = 0 then some ([9, 10, 11, 13, 14, 15, 16, 17], [144, 208, 224, 240, 256, 512, 513, 514, 515, 784, 785, 786, 787, 1040, 1041, 1042, 1043]) else
  if f = 6 ∧ c = 0 then some ([1, 2, 3, 4, 5], [16, 480, 481, 482, 483, 496, 512, 528, 768, 769, 770, 771]) else
  if f = 7 ∧ c = 0 then some ([7, 9, 10, 12, 14, 15, 16], [112, 160, 192, 224, 240, 464, 465, 466, 467, 720, 721, 722, 723, 816, 817, 818, 819, 928, 929, 930, 931]) else
  if f = 8 ∧ c = 0 then some ([1, 5, 6, 7], [80, 96, 256, 257, 258, 259, 416, 417, 418, 419]) else
  if f = 11 ∧ c = 0 then some ([0, 1, 4, 5, 6], [64, 80, 144, 145, 146, 147, 688, 689, 690, 691, 912, 913, 914, 915, 1168, 1169, 1170, 1171, 1280, 1281, 1282, 1283]) else
  if f = 13 ∧ c = 0 then some ([0, 5, 6], [160, 161, 162, 163, 304]) else
  if f = 17 ∧ c = 0 then some ([1, 3, 4, 5, 10, 11, 12, 13, 14], [80, 160, 176, 192, 432, 433, 434, 435, 800, 801, 802, 803, 944, 945, 946, 947, 1136, 1137, 1138, 1139, 1408, 1409, 1410, 1411]) else
  if f = 18 ∧ c = 0 then some ([2, 3, 5], [32, 48]) else
  if f = 24 ∧ c = 0 then some ([1, 23, 24, 25], [16]) else
  if f = 25 ∧ c = 0 then some ([1, 3], [16]) else
  if f = 25 ∧ c = 2 then some ([1, 7], [16]) else
  if f = 34 ∧ c = 0 then some ([0, 6, 7, 8], [96]) else
  if f = 37 ∧ c = 0 then some ([0, 3], []) else
  if f = 39 ∧ c = 0 then some ([0, 1, 6], []) else
  if f = 40 ∧ c = 0 then some ([0, 4], []) else
  if f = 46 ∧ c = 0 then some ([0, 7, 8, 9], [240, 241, 242, 243]) else
  if f = 49 ∧ c = 0 then some ([0, 1, 5], [272, 273, 274, 275]) else
  if f = 50 ∧ c = 0 then some ([0, 1, 5], []) else
  if f = 61 ∧ c = 0 then some ([0, 1, 12, 13], []) else
  if f = 62 ∧ c = 0 then some ([0, 1, 12, 13], []) else
  if f = 68 ∧ c = 0 then some ([0, 1, 7, 8], []) else
  if f = 70 ∧ c = 0 then some ([3, 5, 6], [48, 192, 464]) else
  if f = 70 ∧ c = 2 then some ([3, 5, 6], [48, 192, 464]) else
  if f = 73 ∧ c = 0 then some ([0, 1, 7, 8], []) else
  if f = 74 ∧ c = 0 then some ([0, 1, 7, 8], []) else
  if f = 78 ∧ c = 3 then some ([7, 8, 9], [144, 416, 417, 418, 419, 592]) else
  none
def keepXT (f c : Nat) : Option (List Nat × List Nat) :=
  if f = 3 ∧ c = 0 then some ([0, 1, 2, 3, 4, 5, 6, 7, 8, 18], [3152, 3153, 3154, 3155, 3264, 3265, 3266, 3267, 3328, 3329, 3330, 3331, 3664, 3665, 3666, 3667]) else
  if f = 3 ∧ c = 2 then some ([7, 8, 18, 20, 21, 22, 23], [320, 1216, 1217, 1218, 1219, 3152, 3153, 3154, 3155, 3264, 3265, 3266, 3267, 3328, 3329, 3330, 3331, 3664, 3665, 3666, 3667]) else
  if f = 4 ∧ c = 0 then some ([2], []) else
  if f = 4 ∧ c = 2 then some ([0, 2, 3, 4, 5, 13], [48, 320, 321, 322, 323, 880, 881, 882, 883, 1936, 1937, 1938, 1939]) else
  if f = 5 ∧ c = 0 then some ([8, 9, 13, 15], [144, 208, 240, 512, 513, 514, 515, 784, 785, 786, 787, 1040, 1041, 1042, 1043]) else
  if f = 6 ∧ c = 0 then some ([0, 1], [16, 480, 481, 482, 483, 768, 769, 770, 771, 3984, 3985, 3986, 3987]) else
  if f = 7 ∧ c = 0 then some ([6, 7, 9, 10, 12], [112, 160, 192, 464, 465, 466, 467, 720, 721, 722, 723, 816, 817, 818, 819]) else
  if f = 8 ∧ c = 0 then some ([1, 4, 5, 6], [80, 96, 256, 257, 258, 259, 416, 417, 418, 419, 768, 769, 770, 771]) else
  if f = 11 ∧ c = 0 then some ([4, 5], [64, 80, 144, 145, 146, 147, 688, 689, 690, 691, 912, 913, 914, 915, 1168, 1169, 1170, 1171, 1280, 1281, 1282, 1283]) else
  if f = 13 ∧ c = 0 then some ([4, 5], [304]) else
  if f = 17 ∧ c = 0 then some ([1, 3, 4, 5, 10, 11, 12, 13], [80, 160, 176, 192, 432, 433, 434, 435, 800, 801, 802, 803, 944, 945, 946, 947, 1136, 1137, 1138, 1139, 1408, 1409, 1410, 1411]) else
  if f = 18 ∧ c = 0 then some ([4], []) else
  if f = 24 ∧ c = 0 then some ([1, 2], [16]) else
  if f = 25 ∧ c = 0 then some ([1, 2], [16]) else
  if f = 25 ∧ c = 2 then some ([2], []) else
  if f = 34 ∧ c = 0 then some ([0, 2], []) else
  if f = 37 ∧ c = 0 then some ([0, 2], []) else
  if f = 39 ∧ c = 0 then some ([4, 5], []) else
  if f = 40 ∧ c = 0 then some ([2, 3], []) else
  if f = 46 ∧ c = 0 then some ([0, 4], [240, 241, 242, 243]) else
  if f = 49 ∧ c = 0 then some ([0, 4], [272, 273, 274, 275]) else
  if f = 50 ∧ c = 0 then some ([4], []) else
  if f = 61 ∧ c = 0 then some ([4], []) else
  if f = 62 ∧ c = 0 then some ([4], []) else
  if f = 68 ∧ c = 0 then some ([4], []) else
  if f = 70 ∧ c = 0 then some ([4, 5], [192, 464, 656]) else
  if f = 70 ∧ c = 2 then some ([3, 4, 5, 6], [48, 192, 464, 656]) else
  if f = 73 ∧ c = 0 then some ([4], []) else
  if f = 74 ∧ c = 0 then some ([4], []) else
  if f = 78 ∧ c = 3 then some ([4, 9], [144, 416, 417, 418, 419, 592, 1984, 1985, 1986, 1987]) else
  none
def splT (f t : Nat) : Nat :=
  0
def fnL : List Nat := [3, 4, 5, 6, 7, 8, 9, 10, 11, 12, 13, 14, 15, 16, 17, 18, 19, 20, 21, 22, 23, 24, 25, 26, 27, 28, 29, 30, 31, 32, 33, 34, 35, 36, 37, 38, 39, 40, 41, 42, 43, 44, 45, 46, 47, 48, 49, 50, 51, 52, 53, 54, 55, 56, 57, 58, 59, 60, 61, 62, 63, 64, 65, 66, 67, 68, 69, 70, 71, 72, 73, 74, 75, 76, 77, 78, 79, 80, 81, 82, 83, 84, 85, 86, 87, 88, 89]
def cfg : Cfg := { isF := fun f => decide (f ∈ fnL), keep := keepT, dyn := dynT, byref := fun f => decide (f ∈ ([] : List Nat)), thaw := fun f => decide (f ∈ ([52, 71, 72, 13] : List Nat)), prim := fun _ => none, spl := splT, keepX := keepXT, inp := fun f => decide (f ∈ ([] : List Nat)) }
theorem tests : fnL.all (fnOkB Try.prog cfg) = true := by kernel_rfl
theorem mixed : Try.prog.follows .mixedOrders = true := by kernel_rfl
theorem fnOk {pk : PKs} (h : PKsOk Try.prog pk) (k : Nat) : FnOk Try.prog (evF Try.prog (cfg.with pk) k) := h.fn mixed (fun f hf => by simpa [cfg] using hf) tests k
end Go.Proofs.Ytihgfpggdkhhaaa

