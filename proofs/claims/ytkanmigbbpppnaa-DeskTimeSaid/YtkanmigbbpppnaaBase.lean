/- The setting: which functions are entered, in which regions the order is drawn, what a loop keeps. -/
import Derived.Test.YtkanmigbbpppnaaChecked
import Derived.Test.YtkanmigbbpppnaaAbAny
set_option linter.unusedVariables false
namespace Go.Proofs.Ytkanmigbbpppnaa
open Go Go.Ab

-- NOBODY 68 slices.overlaps[tenancy/api.Lease]
abbrev boundsError_tfs : List Lf := [.fi .i64, .fi .i64, .fb, .fi .u8]
abbrev boundsError_T : Type := Int × Int × Bool × Int
abbrev errorAddressString_tfs : List Lf := [.fs, .fi .u64]
abbrev errorAddressString_T : Type := List UInt8 × Int
abbrev Wait_tfs : List Lf := [.fi .i64, .fi .i64, .fi .i64, .fi .i64]
abbrev Wait_T : Type := Int × Int × Int × Int
abbrev Lease_tfs : List Lf := [.fi .i64, .fi .i64, .fi .i64, .fi .i64]
abbrev Lease_T : Type := Int × Int × Int × Int
abbrev Picks_tfs : List Lf := [.fl false [.fi .u8], .fi .i64]
abbrev Picks_T : Type := (Bool × List (Int)) × Int
abbrev Desk_tfs : List Lf := [.fl true Lease_tfs, .fl true Wait_tfs]
abbrev Desk_T : Type := (Bool × List Lease_T) × (Bool × List Wait_T)
-- 3 tenancy/tenancylaw15.DeskAll
-- 4 tenancy/tenancylaw15.DeskTime
-- 5 tenancy/tenancylaw15.DeskAlone
-- 6 tenancy/tenancylaw15.DeskForms
-- 7 tenancy/tenancylaw15.DeskReads
-- 8 tenancy/tenancylaw15.DeskGives
-- 9 tenancy/tenancylaw15.begun
-- 10 tenancy/tenancymade.Made
-- 11 (*tenancy/tenancymade.Picks).Desk
-- 12 tenancy/desk.Give
-- 13 tenancy/tenancyref13.Give
-- 14 tenancy/desk.Run
-- 15 tenancy/tenancyref13.RunDesk
-- 16 tenancy/tenancyref13.SameWaits
-- 17 tenancy/desk.Ask
-- 18 tenancy/tenancyref13.AskDesk
-- 19 tenancy/tenancylaw15.same
-- 20 tenancy/tenancyref13.SameDesk
-- 21 tenancy/tenancyref13.Ahead
-- 22 tenancy/tenancyref13.Holds
-- 23 tenancy/tenancyref13.MayLeases
-- 24 (*tenancy/tenancymade.Picks).Over
-- 25 (*tenancy/tenancymade.Picks).Num
-- 26 tenancy/lease.Drop
-- 27 slices.Clone[[]tenancy/api.Wait,tenancy/api.Wait]
-- 28 tenancy/tenancyref13.Drop
-- 29 tenancy/desk.pruned
-- 30 slices.IndexFunc[[]tenancy/api.Wait,tenancy/api.Wait]
-- 31 tenancy/desk.Run$1
-- 32 tenancy/desk.may
-- 33 tenancy/desk.lets
-- 34 tenancy/desk.clash
-- 35 slices.Contains[[][2]int,[2]int]
-- 36 tenancy/tenancyref13.Prune
-- 37 tenancy/tenancyref13.free
-- 38 tenancy/tenancyref13.lends
-- 39 tenancy/tenancyref13.Clash
-- 40 tenancy/line.Put
-- 41 tenancy/tenancyref13.PutWait
-- 42 tenancy/tenancyref13.SameLeases
-- 43 slices.DeleteFunc[[]tenancy/api.Lease,tenancy/api.Lease]
-- 44 slices.Clone[[]tenancy/api.Lease,tenancy/api.Lease]
-- 45 tenancy/lease.Drop$1
-- 46 tenancy/lease.Prune
-- 47 tenancy/line.Ahead
-- 48 tenancy/clock.Add
-- 49 tenancy/lease.Grant
-- 50 tenancy/line.Drop
-- 51 tenancy/lease.Clash
-- 52 slices.Index[[][2]int,[2]int]
-- 53 tenancy/tenancyref13.Grant
-- 54 tenancy/tenancyref1.Add
-- 55 tenancy/tenancyref13.DropWait
-- 56 tenancy/line.place
-- 57 slices.IndexFunc[[]tenancy/api.Lease,tenancy/api.Lease]
-- 58 tenancy/lease.Prune$1
-- 59 slices.BinarySearchFunc[[]tenancy/api.Lease,tenancy/api.Lease,tenancy/api.Lease]
-- 60 tenancy/lease.order
-- 61 slices.Insert[[]tenancy/api.Lease,tenancy/api.Lease]
-- 62 slices.DeleteFunc[[]tenancy/api.Wait,tenancy/api.Wait]
-- 63 tenancy/line.Drop$1
-- 64 tenancy/lease.Holds
-- 65 tenancy/line.place$1
-- 66 cmp.Or[int]
-- 67 cmp.Compare[int]
-- 69 slices.rotateRight[tenancy/api.Lease]
-- 70 cmp.isNaN[int]
-- 71 slices.rotateLeft[tenancy/api.Lease]
-- 72 slices.Reverse[[]tenancy/api.Lease,tenancy/api.Lease]
def dynT (f id : Nat) : List (Nat × Nat) :=
 if f = 3 ∧ id = 10 then [(6, 10), (6, 11), (6, 12), (2, 14), (3, 14), (4, 14), (6, 14)] else
 if f = 3 ∧ id = 19 then [(1, 2)] else
 if f = 3 ∧ id = 21 then [(3, 4)] else
 if f = 3 ∧ id = 33 then [(1, 2)] else
 if f = 4 ∧ id = 17 then [(0, 11), (11, 15), (11, 16), (11, 17), (0, 19), (7, 19), (8, 19), (9, 19), (11, 19)] else
 if f = 4 ∧ id = 24 then [(10, 11), (10, 12)] else
 if f = 5 ∧ id = 9 then [(6, 10), (6, 11), (6, 12), (2, 14), (3, 14), (4, 14), (6, 14)] else
 if f = 5 ∧ id = 12 then [(0, 11), (0, 20), (7, 20), (8, 20), (9, 20), (11, 20), (14, 20)] else
 if f = 7 ∧ id = 11 then [(6, 10), (6, 11), (6, 12), (2, 14), (3, 14), (4, 14), (6, 14)] else
 if f = 8 ∧ id = 19 then [(0, 3)] else
 if f = 11 ∧ id = 8 then [(0, 7)] else
 if f = 12 ∧ id = 1 then [(4, 5), (4, 6)] else
 if f = 14 ∧ id = 5 then [(3, 5), (0, 6), (1, 6), (2, 6), (3, 6)] else
 if f = 15 ∧ id = 20 then [(0, 7), (1, 7), (4, 7), (5, 7)] else
 if f = 17 ∧ id = 8 then [(0, 4)] else
 if f = 18 ∧ id = 8 then [(0, 10)] else
 if f = 29 ∧ id = 1 then [(3, 4), (3, 5)] else
 if f = 33 ∧ id = 1 then [(0, 7), (1, 7), (2, 7), (3, 7), (4, 7), (5, 7), (0, 9), (1, 9), (2, 9), (3, 9), (4, 9), (5, 9), (7, 9)] else
 if f = 33 ∧ id = 2 then [(3, 4), (3, 5), (3, 6), (3, 7)] else
 if f = 38 ∧ id = 1 then [(0, 9), (1, 9), (2, 9), (3, 9), (4, 9), (5, 9), (6, 9), (7, 9), (9, 12), (11, 12), (9, 13), (11, 13), (9, 14), (11, 14), (9, 15), (11, 15)] else
 if f = 49 ∧ id = 5 then [(17, 22), (18, 22), (19, 22)] else
 if f = 53 ∧ id = 5 then [(12, 17), (13, 17), (14, 17), (15, 17)] else
 if f = 53 ∧ id = 11 then [(0, 3), (0, 5), (4, 5), (0, 6), (3, 6), (4, 6), (0, 10), (4, 10), (6, 10), (7, 10)] else
 if f = 60 ∧ id = 1 then [(4, 5), (4, 6), (4, 7), (4, 8)] else
 []
def keepT (f c : Nat) : Option (List Nat × List Nat) :=
 if f = 3 ∧ c = 0 then some ([1, 5, 7, 8, 9, 10], [80, 112, 144, 672, 673, 674, 675, 2032, 2033, 2034, 2035, 2176, 2177, 2178, 2179, 2592, 2593, 2594, 2595, 2656, 2657, 2658, 2659, 2896, 2897, 2898, 2899, 3008, 3009, 3010, 3011]) else
 if f = 3 ∧ c = 3 then some ([1, 5, 7, 8, 9, 10, 14, 16, 17, 19, 20], [80, 112, 144, 224, 272, 672, 673, 674, 675, 2032, 2033, 2034, 2035, 2176, 2177, 2178, 2179, 2592, 2593, 2594, 2595, 2656, 2657, 2658, 2659, 2896, 2897, 2898, 2899, 3008, 3009, 3010, 3011]) else
 if f = 4 ∧ c = 0 then some ([4, 11, 12, 13, 17, 18], [176, 208, 608, 609, 610, 611, 928, 929, 930, 931, 2208, 2209, 2210, 2211]) else
 if f = 4 ∧ c = 2 then some ([12, 13, 20, 21, 23, 24], [208, 320, 608, 609, 610, 611, 2352, 2353, 2354, 2355]) else
 if f = 5 ∧ c = 0 then some ([1, 5, 6, 7], [80, 528, 529, 530, 531, 1280, 1281, 1282, 1283, 1584, 1585, 1586, 1587, 1824, 1825, 1826, 1827]) else
 if f = 5 ∧ c = 3 then some ([1, 5, 6, 7, 15], [80, 528, 529, 530, 531, 1280, 1281, 1282, 1283, 1584, 1585, 1586, 1587, 1824, 1825, 1826, 1827]) else
 if f = 5 ∧ c = 5 then some ([1, 5, 6, 7, 15, 16, 17, 18], [80, 528, 529, 530, 531, 1280, 1281, 1282, 1283, 1584, 1585, 1586, 1587, 1824, 1825, 1826, 1827]) else
 if f = 7 ∧ c = 0 then some ([0, 3, 4, 5], [48, 912, 913, 914, 915]) else
 if f = 8 ∧ c = 0 then some ([3, 4, 5, 6, 7], [48, 400, 401, 402, 403, 720, 721, 722, 723, 784, 785, 786, 787, 896]) else
 if f = 8 ∧ c = 2 then some ([3, 4, 5, 6, 7, 8], [48, 400, 401, 402, 403, 720, 721, 722, 723, 784, 785, 786, 787, 896]) else
 if f = 8 ∧ c = 4 then some ([3, 4, 5, 6, 7, 8, 9], [48, 400, 401, 402, 403, 720, 721, 722, 723, 784, 785, 786, 787, 896]) else
 if f = 8 ∧ c = 6 then some ([5, 6, 13], [400, 401, 402, 403, 720, 721, 722, 723, 784, 785, 786, 787, 896]) else
 if f = 8 ∧ c = 8 then some ([5, 6, 13, 14, 15, 16], [400, 401, 402, 403, 720, 721, 722, 723, 784, 785, 786, 787, 896, 1456, 1680]) else
 if f = 11 ∧ c = 0 then some ([0, 1, 4, 6, 7, 8], [64, 96, 656, 657, 658, 659, 816, 817, 818, 819, 976, 977, 978, 979]) else
 if f = 14 ∧ c = 0 then some ([3, 4, 5, 6], [48, 64, 256, 257, 258, 259, 496, 497, 498, 499, 560, 1008]) else
 if f = 14 ∧ c = 2 then some ([3, 4, 5, 6, 37, 38, 39], [48, 64, 256, 257, 258, 259, 496, 497, 498, 499, 560, 1008]) else
 if f = 14 ∧ c = 4 then some ([3, 4, 5, 6, 10, 37, 38, 39, 46, 47, 48], [48, 64, 160, 256, 257, 258, 259, 496, 497, 498, 499, 560, 736, 737, 738, 739, 1008]) else
 if f = 15 ∧ c = 0 then some ([1, 2, 4, 7, 8], [32, 64, 336, 337, 338, 339, 688, 752, 753, 754, 755]) else
 if f = 15 ∧ c = 2 then some ([1, 2, 4, 7, 10, 11], [32, 64, 336, 337, 338, 339, 688, 752, 753, 754, 755, 1648]) else
 if f = 15 ∧ c = 4 then some ([1, 2, 4, 7, 10, 11, 12, 13, 14], [32, 64, 192, 336, 337, 338, 339, 688, 752, 753, 754, 755, 1104, 1105, 1106, 1107, 1648]) else
 if f = 15 ∧ c = 6 then some ([1, 2, 4, 7, 10, 11, 12, 13, 14, 15, 16, 17], [32, 64, 192, 240, 336, 337, 338, 339, 688, 752, 753, 754, 755, 1104, 1105, 1106, 1107, 1648]) else
 if f = 16 ∧ c = 0 then some ([0, 1, 5], []) else
 if f = 19 ∧ c = 0 then some ([0, 1, 5], []) else
 if f = 21 ∧ c = 0 then some ([0, 1, 2, 7], []) else
 if f = 22 ∧ c = 0 then some ([0, 1, 2, 3, 9], []) else
 if f = 23 ∧ c = 0 then some ([0, 3], []) else
 if f = 28 ∧ c = 0 then some ([0, 1, 2, 7, 8], [592]) else
 if f = 30 ∧ c = 0 then some ([0, 1, 7, 8], []) else
 if f = 36 ∧ c = 0 then some ([0, 1, 5, 6], [416]) else
 if f = 39 ∧ c = 0 then some ([0, 1, 2, 3, 4, 11, 12], [656]) else
 if f = 41 ∧ c = 0 then some ([0, 3, 6], [48]) else
 if f = 42 ∧ c = 0 then some ([0, 1, 5], []) else
 if f = 43 ∧ c = 0 then some ([0, 1, 5, 6], [160, 161, 162, 163]) else
 if f = 47 ∧ c = 0 then some ([1, 2, 9, 10, 11], []) else
 if f = 51 ∧ c = 0 then some ([0, 1, 2, 3, 4, 10, 14, 15, 16], [800]) else
 if f = 52 ∧ c = 0 then some ([0, 3, 7, 8], [48]) else
 if f = 53 ∧ c = 0 then some ([0, 3, 5], [48]) else
 if f = 53 ∧ c = 2 then some ([3, 6, 7], [48, 880, 881, 882, 883]) else
 if f = 55 ∧ c = 0 then some ([0, 1, 5, 6], [416]) else
 if f = 57 ∧ c = 0 then some ([0, 1, 7, 8], []) else
 if f = 59 ∧ c = 0 then some ([0, 2, 4, 8, 9, 10], [64, 368]) else
 if f = 62 ∧ c = 0 then some ([0, 1, 5, 6], [160, 161, 162, 163]) else
 if f = 66 ∧ c = 0 then some ([3, 6, 7, 8], []) else
 if f = 72 ∧ c = 0 then some ([0, 2, 3], []) else
 none
def keepXT (f c : Nat) : Option (List Nat × List Nat) :=
 if f = 3 ∧ c = 0 then some ([6], []) else
 if f = 3 ∧ c = 3 then some ([1, 5, 6, 7, 8, 9, 10, 14, 17], [80, 112, 144, 224, 272, 672, 673, 674, 675, 2032, 2033, 2034, 2035, 2176, 2177, 2178, 2179, 2592, 2593, 2594, 2595, 2656, 2657, 2658, 2659, 2896, 2897, 2898, 2899, 3008, 3009, 3010, 3011]) else
 if f = 4 ∧ c = 0 then some ([10, 11, 12, 13], [176, 208, 608, 609, 610, 611, 928, 929, 930, 931, 2208, 2209, 2210, 2211]) else
 if f = 4 ∧ c = 2 then some ([10, 12, 13, 20, 23], [208, 320, 608, 609, 610, 611, 2352, 2353, 2354, 2355]) else
 if f = 5 ∧ c = 0 then some ([4], []) else
 if f = 5 ∧ c = 3 then some ([1, 4, 5, 6, 7], [80, 528, 529, 530, 531, 1280, 1281, 1282, 1283, 1584, 1585, 1586, 1587, 1824, 1825, 1826, 1827]) else
 if f = 5 ∧ c = 5 then some ([1, 4, 5, 6, 7, 15, 16, 17], [80, 528, 529, 530, 531, 1280, 1281, 1282, 1283, 1584, 1585, 1586, 1587, 1824, 1825, 1826, 1827]) else
 if f = 7 ∧ c = 0 then some ([2], []) else
 if f = 8 ∧ c = 0 then some ([2, 3, 5, 6], [48, 400, 401, 402, 403, 720, 721, 722, 723, 784, 785, 786, 787, 896]) else
 if f = 8 ∧ c = 2 then some ([2, 3, 4, 5, 6, 7], [48, 400, 401, 402, 403, 720, 721, 722, 723, 784, 785, 786, 787, 896]) else
 if f = 8 ∧ c = 4 then some ([2, 3, 4, 5, 6, 7, 8], [48, 400, 401, 402, 403, 720, 721, 722, 723, 784, 785, 786, 787, 896]) else
 if f = 8 ∧ c = 6 then some ([2], []) else
 if f = 8 ∧ c = 8 then some ([2, 5, 6, 13, 14, 15], [400, 401, 402, 403, 720, 721, 722, 723, 784, 785, 786, 787, 896, 1456, 1680]) else
 if f = 11 ∧ c = 0 then some ([4, 5, 6, 7], [64, 96, 656, 657, 658, 659, 816, 817, 818, 819, 976, 977, 978, 979]) else
 if f = 14 ∧ c = 0 then some ([3, 4, 5, 6], [48, 64, 256, 257, 258, 259, 496, 497, 498, 499, 560, 1008]) else
 if f = 14 ∧ c = 2 then some ([4, 5, 6], [64, 256, 257, 258, 259, 496, 497, 498, 499, 560, 1008]) else
 if f = 14 ∧ c = 4 then some ([3, 4, 5, 6, 37, 38, 39], [48, 64, 256, 257, 258, 259, 496, 497, 498, 499, 560, 1008]) else
 if f = 15 ∧ c = 0 then some ([1, 2, 4, 5, 6, 7], [32, 64, 336, 337, 338, 339, 688, 752, 753, 754, 755, 1648]) else
 if f = 15 ∧ c = 2 then some ([2, 4, 5, 6, 7, 10], [32, 64, 336, 337, 338, 339, 688, 752, 753, 754, 755, 1648]) else
 if f = 15 ∧ c = 4 then some ([1, 2, 4, 5, 6, 7, 10, 11], [32, 64, 336, 337, 338, 339, 688, 752, 753, 754, 755, 1648]) else
 if f = 15 ∧ c = 6 then some ([1, 2, 4, 5, 6, 7, 10, 11, 12, 13, 14, 15, 16], [32, 64, 192, 240, 336, 337, 338, 339, 688, 752, 753, 754, 755, 1104, 1105, 1106, 1107, 1648]) else
 if f = 16 ∧ c = 0 then some ([4], []) else
 if f = 19 ∧ c = 0 then some ([4], []) else
 if f = 21 ∧ c = 0 then some ([6], []) else
 if f = 22 ∧ c = 0 then some ([8], []) else
 if f = 23 ∧ c = 0 then some ([2], []) else
 if f = 28 ∧ c = 0 then some ([6, 7], [592]) else
 if f = 30 ∧ c = 0 then some ([4], []) else
 if f = 36 ∧ c = 0 then some ([4, 5], [416]) else
 if f = 39 ∧ c = 0 then some ([10, 11], [656]) else
 if f = 41 ∧ c = 0 then some ([0, 3, 4, 5], [48, 528, 560, 704, 705, 706, 707, 832]) else
 if f = 42 ∧ c = 0 then some ([4], []) else
 if f = 43 ∧ c = 0 then some ([0, 4, 5], [160, 161, 162, 163]) else
 if f = 47 ∧ c = 0 then some ([6], []) else
 if f = 51 ∧ c = 0 then some ([10], [800]) else
 if f = 52 ∧ c = 0 then some ([4], []) else
 if f = 53 ∧ c = 0 then some ([0, 3, 4], [48, 880, 881, 882, 883, 1440, 1504, 1552, 1616, 1680]) else
 if f = 53 ∧ c = 2 then some ([3, 4, 6], [48, 880, 881, 882, 883, 1440, 1504, 1552, 1616, 1680]) else
 if f = 55 ∧ c = 0 then some ([4, 5], [416]) else
 if f = 57 ∧ c = 0 then some ([4], []) else
 if f = 59 ∧ c = 0 then some ([0, 2, 4, 6, 7, 8, 9], [64]) else
 if f = 62 ∧ c = 0 then some ([0, 4, 5], [160, 161, 162, 163]) else
 if f = 66 ∧ c = 0 then some ([2, 3], []) else
 if f = 72 ∧ c = 0 then some ([], []) else
 none
def splT (f t : Nat) : Nat :=
 0
def fnL : List Nat := [3, 4, 5, 6, 7, 8, 9, 10, 11, 12, 13, 14, 15, 16, 17, 18, 19, 20, 21, 22, 23, 24, 25, 26, 27, 28, 29, 30, 31, 32, 33, 34, 35, 36, 37, 38, 39, 40, 41, 42, 43, 44, 45, 46, 47, 48, 49, 50, 51, 52, 53, 54, 55, 56, 57, 58, 59, 60, 61, 62, 63, 64, 65, 66, 67, 69, 70, 71, 72]
def cfg : Cfg := { isF := fun f => decide (f ∈ fnL), keep := keepT, dyn := dynT, byref := fun f => decide (f ∈ ([43, 57, 61, 62, 30] : List Nat)), thaw := fun f => decide (f ∈ ([44, 43, 27, 61, 50, 63, 62, 28, 55] : List Nat)), prim := fun _ => none, spl := splT, keepX := keepXT, inp := fun f => decide (f ∈ ([61, 40] : List Nat)) }
theorem tests : fnL.all (fnOkB Try.prog cfg) = true := by kernel_rfl
theorem mixed : Try.prog.follows .mixedOrders = true := by kernel_rfl
theorem fnOk {pk : PKs} (h : PKsOk Try.prog pk) (k : Nat) : FnOk Try.prog (evF Try.prog (cfg.with pk) k) := h.fn mixed (fun f hf => by simpa [cfg] using hf) tests k
end Go.Proofs.Ytkanmigbbpppnaa

