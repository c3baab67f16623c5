/- The setting: which functions are entered, in which regions the order is drawn, what a loop keeps. -/
import Derived.Test.YtmjgiplgghmapaaChecked
import Derived.Test.YtmjgiplgghmapaaAbAny
set_option linter.unusedVariables false
namespace Go.Proofs.Ytmjgiplgghmapaa
open Go Go.Ab

abbrev boundsError_tfs : List Lf := [.fi .i64, .fi .i64, .fb, .fi .u8]
abbrev boundsError_T : Type := Int × Int × Bool × Int
abbrev errorAddressString_tfs : List Lf := [.fs, .fi .u64]
abbrev errorAddressString_T : Type := List UInt8 × Int
abbrev Step_tfs : List Lf := [.fi .i64, .fi .i64, .fi .i64, .fi .i64, .fi .i64, .fi .i64, .fi .i64, .fs, .fl false [.fi .i64]]
abbrev Step_T : Type := Int × Int × Int × Int × Int × Int × Int × List UInt8 × (Bool × List (Int))
abbrev Picks_tfs : List Lf := [.fl false [.fi .u8], .fi .i64]
abbrev Picks_T : Type := (Bool × List (Int)) × Int
abbrev Write_tfs : List Lf := [.fi .i64, .fs]
abbrev Write_T : Type := Int × List UInt8
abbrev reader_tfs : List Lf := [.fl false [.fi .u8]]
abbrev reader_T : Type := (Bool × List (Int))
abbrev Reader_tfs : List Lf := [.fl false [.fi .u8], .fb]
abbrev Reader_T : Type := (Bool × List (Int)) × Bool
abbrev short_tfs : List Lf := []
abbrev short_T : Type := Unit
abbrev Mark_tfs : List Lf := [.fi .i64, .fi .i64, .fi .i64, .fi .i64]
abbrev Mark_T : Type := Int × Int × Int × Int
abbrev File_tfs : List Lf := [.fs, .fi .i64, .fs]
abbrev File_T : Type := List UInt8 × Int × List UInt8
abbrev Put_tfs : List Lf := [.fi .i64, .fs]
abbrev Put_T : Type := Int × List UInt8
abbrev Lease_tfs : List Lf := [.fi .i64, .fi .i64, .fi .i64, .fi .i64]
abbrev Lease_T : Type := Int × Int × Int × Int
abbrev Wait_tfs : List Lf := [.fi .i64, .fi .i64, .fi .i64, .fi .i64]
abbrev Wait_T : Type := Int × Int × Int × Int
abbrev Tell_tfs : List Lf := [.fi .i64, .fi .i64, .fi .i64, .fi .i64, .fi .i64, .fi .i64, .fi .i64, .fi .i64, .fs]
abbrev Tell_T : Type := Int × Int × Int × Int × Int × Int × Int × Int × List UInt8
abbrev Gram_tfs : List Lf := [.fi .i64, .fs, .fb]
abbrev Gram_T : Type := Int × List UInt8 × Bool
abbrev Disk_tfs : List Lf := [.fl false [.fs], .fl true Put_tfs, .fi .i64, .fb]
abbrev Disk_T : Type := (Bool × List (List UInt8)) × (Bool × List Put_T) × Int × Bool
abbrev State_tfs : List Lf := [.fl true File_tfs, .fl true Mark_tfs, .fi .i64]
abbrev State_T : Type := (Bool × List File_T) × (Bool × List Mark_T) × Int
abbrev Store_tfs : List Lf := [.fl false [.fs], .fl true Put_tfs, .fi .i64, .fb, .fl true File_tfs, .fl true Mark_tfs, .fi .i64]
abbrev Store_T : Type := (Bool × List (List UInt8)) × (Bool × List Put_T) × Int × Bool × (Bool × List File_T) × (Bool × List Mark_T) × Int
abbrev Desk_tfs : List Lf := [.fl true Lease_tfs, .fl true Wait_tfs]
abbrev Desk_T : Type := (Bool × List Lease_T) × (Bool × List Wait_T)
abbrev Server_tfs : List Lf := [.fl false [.fs], .fl true Put_tfs, .fi .i64, .fb, .fl true File_tfs, .fl true Mark_tfs, .fi .i64, .fl true Lease_tfs, .fl true Wait_tfs, .fl false [.fi .i64], .fl true Tell_tfs, .fi .i64, .fi .i64, .fi .i64, .fb, .fi .i64]
abbrev Server_T : Type := (Bool × List (List UInt8)) × (Bool × List Put_T) × Int × Bool × (Bool × List File_T) × (Bool × List Mark_T) × Int × (Bool × List Lease_T) × (Bool × List Wait_T) × (Bool × List (Int)) × (Bool × List Tell_T) × Int × Int × Int × Bool × Int
abbrev Ask_tfs : List Lf := [.fi .i64, .fi .i64, .fi .i64, .fi .i64, .fs, .fi .i64, .fi .i64, .fl true Write_tfs]
abbrev Ask_T : Type := Int × Int × Int × Int × List UInt8 × Int × Int × (Bool × List Write_T)
abbrev Out_tfs : List Lf := [.fb, .fi .i64, .fi .i64, .fi .i64, .fi .i64, .fs, .fi .i64, .fi .i64, .fl true Write_tfs, .fi .i64, .fi .i64]
abbrev Out_T : Type := Bool × Int × Int × Int × Int × List UInt8 × Int × Int × (Bool × List Write_T) × Int × Int
abbrev Cache_tfs : List Lf := [.fi .i64, .fi .i64, .fi .i64, .fs, .fl true Write_tfs, .fi .i64, .fb, .fb]
abbrev Cache_T : Type := Int × Int × Int × List UInt8 × (Bool × List Write_T) × Int × Bool × Bool
abbrev Client_tfs : List Lf := [.fi .i64, .fi .i64, .fi .i64, .fi .i64, .fl true Cache_tfs, .fl false [.fs], .fb, .fi .i64, .fi .i64, .fi .i64, .fi .i64, .fs, .fi .i64, .fi .i64, .fl true Write_tfs, .fi .i64, .fi .i64, .fi .i64, .fi .i64, .fi .i64]
abbrev Client_T : Type := Int × Int × Int × Int × (Bool × List Cache_T) × (Bool × List (List UInt8)) × Bool × Int × Int × Int × Int × List UInt8 × Int × Int × (Bool × List Write_T) × Int × Int × Int × Int × Int
abbrev World_tfs : List Lf := [.fi .i64, .fl false [.fs], .fl true Put_tfs, .fi .i64, .fb, .fl true File_tfs, .fl true Mark_tfs, .fi .i64, .fl true Lease_tfs, .fl true Wait_tfs, .fl false [.fi .i64], .fl true Tell_tfs, .fi .i64, .fi .i64, .fi .i64, .fb, .fi .i64, .fl true Client_tfs, .fl true Gram_tfs]
abbrev World_T : Type := Int × (Bool × List (List UInt8)) × (Bool × List Put_T) × Int × Bool × (Bool × List File_T) × (Bool × List Mark_T) × Int × (Bool × List Lease_T) × (Bool × List Wait_T) × (Bool × List (Int)) × (Bool × List Tell_T) × Int × Int × Int × Bool × Int × (Bool × List Client_T) × (Bool × List Gram_T)
-- 3 tenancy/tenancylaw25.OpsAll
-- 4 tenancy/tenancylaw25.OpsBack
-- 5 tenancy/tenancylaw25.OpsJoins
-- 6 tenancy/tenancylaw25.OpsForms
-- 7 tenancy/tenancylaw25.OpsOne
-- 8 tenancy/tenancylaw25.OpsShort
-- 9 tenancy/tenancylaw25.begun
-- 10 tenancy/tenancymade.Made
-- 11 tenancy/tenancyref21.New
-- 12 (*tenancy/tenancymade.Picks).Step
-- 13 tenancy/tenancyref21.SameSteps
-- 14 tenancy/ops.Take
-- 15 tenancy/tenancyref21.TakeSteps
-- 16 tenancy/ops.Put
-- 17 tenancy/tenancyref21.PutSteps
-- 18 tenancy/tenancyref21.SameStep
-- 19 tenancy/tenancyref13.Start
-- 20 tenancy/tenancyref19.New
-- 21 (*tenancy/tenancymade.Picks).Num
-- 22 (*tenancy/tenancymade.Picks).Time
-- 23 (*tenancy/tenancymade.Picks).Write
-- 24 (*tenancy/ops.reader).next
-- 25 (*tenancy/tenancyref13.Reader).Num
-- 26 (*tenancy/tenancyref13.Reader).Text
-- 27 tenancy/ops.put
-- 28 tenancy/ops.same
-- 29 tenancy/tenancyref21.putStep
-- 30 tenancy/tenancyref7.Make
-- 31 (*tenancy/ops.reader).next$1
-- 32 (*tenancy/ops.reader).num
-- 33 (*tenancy/ops.reader).step
-- 34 tenancy/tenancyref1.Take
-- 35 tenancy/tenancyref1.TakeText
-- 36 tenancy/bits.Put
-- 37 tenancy/bits.Text
-- 38 slices.Equal[[]int,int]
-- 39 tenancy/tenancyref1.Put
-- 40 tenancy/tenancyref21.one
-- 41 tenancy/tenancyref1.Text
-- 42 tenancy/tenancyref5.New
-- 43 tenancy/tenancyref7.Home
-- 44 tenancy/tenancyref7.PutImage
-- 45 tenancy/tenancyref7.NewState
-- 46 tenancy/tenancyref5.Write
-- 47 tenancy/tenancyref5.Flush
-- 48 tenancy/bits.Take
-- 49 (*tenancy/ops.reader).gains
-- 50 (*tenancy/ops.reader).text
-- 51 slices.Clone[[]byte,byte]
-- 52 tenancy/tenancyref5.noughts
-- 53 tenancy/tenancyref7.MayState
-- 54 tenancy/tenancyref5.is
-- 55 tenancy/tenancyref5.lasts
-- 56 tenancy/bits.caught
-- 57 tenancy/bits.front
-- 58 tenancy/bits.TakeText
-- 59 tenancy/tenancyref7.num
-- 60 tenancy/tenancyref7.Find
-- 61 tenancy/tenancyref7.MayName
def dynT (f id : Nat) : List (Nat × Nat) :=
  if f = 3 ∧ id = 17 then [(8, 10), (8, 11), (17, 19), (17, 20)] else
  if f = 5 ∧ id = 13 then [(8, 11), (9, 11), (8, 13), (9, 13), (11, 13)] else
  if f = 7 ∧ id = 13 then [(0, 5), (1, 5), (0, 6), (1, 6)] else
  if f = 7 ∧ id = 32 then [(0, 7), (1, 7), (0, 8), (1, 8)] else
  if f = 8 ∧ id = 13 then [(3, 6)] else
  if f = 11 ∧ id = 5 then [(0, 3), (1, 3), (0, 4), (1, 4)] else
  if f = 12 ∧ id = 23 then [(1, 6), (2, 6), (3, 6), (4, 6)] else
  if f = 12 ∧ id = 37 then [(0, 3), (1, 3), (0, 4), (1, 4)] else
  if f = 15 ∧ id = 14 then [(0, 3), (1, 3), (0, 4), (1, 4)] else
  if f = 15 ∧ id = 42 then [(0, 3), (1, 3), (0, 4), (1, 4)] else
  if f = 19 ∧ id = 1 then [(0, 1), (0, 2), (1, 2)] else
  if f = 20 ∧ id = 1 then [(1, 2)] else
  if f = 22 ∧ id = 6 then [(0, 10), (1, 10), (0, 12), (1, 12)] else
  if f = 27 ∧ id = 14 then [(3, 4), (3, 5)] else
  if f = 27 ∧ id = 19 then [(3, 4), (3, 5)] else
  if f = 27 ∧ id = 21 then [(3, 4), (3, 5), (3, 7), (6, 7), (3, 8), (6, 8), (3, 10), (6, 10), (9, 10), (3, 11), (6, 11), (9, 11)] else
  if f = 27 ∧ id = 23 then [(3, 4), (3, 5)] else
  if f = 27 ∧ id = 25 then [(3, 4), (3, 5), (3, 6)] else
  if f = 29 ∧ id = 15 then [(3, 4), (3, 5)] else
  if f = 29 ∧ id = 20 then [(3, 4), (3, 5)] else
  if f = 29 ∧ id = 22 then [(3, 4), (3, 5), (3, 7), (6, 7), (3, 8), (6, 8), (3, 10), (6, 10), (9, 10), (3, 11), (6, 11), (9, 11)] else
  if f = 29 ∧ id = 24 then [(3, 4), (3, 5)] else
  if f = 29 ∧ id = 26 then [(3, 4), (3, 5), (3, 6)] else
  if f = 30 ∧ id = 8 then [(0, 1)] else
  if f = 42 ∧ id = 5 then [(0, 2), (1, 2), (0, 3), (1, 3)] else
  if f = 44 ∧ id = 8 then [(3, 4), (3, 5), (3, 7), (6, 7), (3, 8), (6, 8), (3, 10), (6, 10), (9, 10), (3, 11), (6, 11), (9, 11)] else
  if f = 44 ∧ id = 15 then [(3, 4), (3, 5)] else
  if f = 45 ∧ id = 1 then [(0, 1)] else
  if f = 46 ∧ id = 7 then [(1, 4), (2, 4)] else
  []
def keepT (f c : Nat) : Option (List Nat × List Nat) :=
  if f = 3 ∧ c = 0 then some ([0, 1, 2, 7], []) else
  if f = 3 ∧ c = 2 then some ([0, 1, 8, 9, 10, 11], [144, 800, 801, 802, 803, 816, 817, 818, 819, 976]) else
  if f = 5 ∧ c = 0 then some ([2, 9, 10, 11, 12, 13], [448, 480, 512, 544, 545, 546, 547, 576, 577, 578, 579, 592, 624, 832]) else
  if f = 7 ∧ c = 1 then some ([16, 19, 20], [256, 304, 576, 656, 864, 944, 1024, 1184, 1216, 1312, 1344, 1376, 1520, 1552, 1648, 1936]) else
  if f = 7 ∧ c = 3 then some ([8, 16, 19, 21], [256, 304, 576, 656, 864, 944, 1024, 1184, 1216, 1312, 1344, 1376, 1520, 1552, 1648, 1936]) else
  if f = 8 ∧ c = 0 then some ([1, 5, 6, 7, 8], [96, 304, 305, 306, 307, 320, 321, 322, 323, 480]) else
  if f = 11 ∧ c = 0 then some ([0, 1, 2], [0, 16, 48, 49, 50, 51, 224]) else
  if f = 12 ∧ c = 1 then some ([0, 4, 9, 10], [64, 144, 368, 369, 370, 371, 448, 449, 450, 451, 800, 801, 802, 803, 1232, 1233, 1234, 1235, 1488, 1489, 1490, 1491, 1648, 1649, 1650, 1651, 1808, 1809, 1810, 1811, 1968, 1969, 1970, 1971, 2368, 2369, 2370, 2371, 2528]) else
  if f = 13 ∧ c = 0 then some ([0, 1, 5], []) else
  if f = 14 ∧ c = 0 then some ([2, 3], [128, 320]) else
  if f = 15 ∧ c = 0 then some ([3, 4], [176, 2144]) else
  if f = 15 ∧ c = 3 then some ([3, 4, 5, 6], [80, 176, 608, 609, 610, 611, 720, 721, 722, 723, 896, 976, 977, 978, 979, 1056, 1057, 1058, 1059, 1104, 1105, 1106, 1107, 1232, 1233, 1234, 1235, 1280, 1281, 1282, 1283, 1360, 1361, 1362, 1363, 1408, 1409, 1410, 1411, 1456, 1457, 1458, 1459, 1504, 1505, 1506, 1507, 1584, 1585, 1586, 1587, 1632, 1633, 1634, 1635, 1712, 1713, 1714, 1715, 1984, 2144]) else
  if f = 15 ∧ c = 5 then some ([3, 4, 5, 7, 8], [80, 176, 608, 609, 610, 611, 720, 721, 722, 723, 896, 976, 977, 978, 979, 1056, 1057, 1058, 1059, 1104, 1105, 1106, 1107, 1232, 1233, 1234, 1235, 1280, 1281, 1282, 1283, 1360, 1361, 1362, 1363, 1408, 1409, 1410, 1411, 1456, 1457, 1458, 1459, 1504, 1505, 1506, 1507, 1584, 1585, 1586, 1587, 1632, 1633, 1634, 1635, 1712, 1713, 1714, 1715, 1760, 1761, 1762, 1763, 1984, 2144]) else
  if f = 16 ∧ c = 0 then some ([2, 7, 8, 9], [528]) else
  if f = 17 ∧ c = 0 then some ([0, 3, 4], [560]) else
  if f = 18 ∧ c = 0 then some ([2, 3, 5], [32, 48]) else
  if f = 22 ∧ c = 0 then some ([0, 4, 5, 6, 7], [64, 96, 512]) else
  if f = 24 ∧ c = 0 then some ([0, 2, 3], [32, 48, 208, 209, 210, 211]) else
  if f = 27 ∧ c = 1 then some ([3, 20, 21, 22], [160, 161, 162, 163, 288, 289, 290, 291, 448, 449, 450, 451, 1456, 1457, 1458, 1459, 1616, 1617, 1618, 1619]) else
  if f = 27 ∧ c = 3 then some ([3, 93, 94, 95], [160, 161, 162, 163, 288, 289, 290, 291, 448, 449, 450, 451, 1456, 1457, 1458, 1459, 1616, 1617, 1618, 1619]) else
  if f = 29 ∧ c = 1 then some ([1, 3, 4], [16, 128, 144, 464, 465, 466, 467, 560, 561, 562, 563, 784, 785, 786, 787, 880, 881, 882, 883, 1024, 1025, 1026, 1027, 1216, 1217, 1218, 1219, 1456, 1457, 1458, 1459, 1600, 1601, 1602, 1603, 1760, 1761, 1762, 1763, 1984, 1985, 1986, 1987]) else
  if f = 29 ∧ c = 3 then some ([1, 3, 5], [16, 128, 144, 464, 465, 466, 467, 560, 561, 562, 563, 784, 785, 786, 787, 880, 881, 882, 883, 1024, 1025, 1026, 1027, 1216, 1217, 1218, 1219, 1456, 1457, 1458, 1459, 1600, 1601, 1602, 1603, 1760, 1761, 1762, 1763, 1984, 1985, 1986, 1987]) else
  if f = 30 ∧ c = 0 then some ([0, 1, 2, 3], [0, 16, 112, 113, 114, 115, 144, 145, 146, 147, 368, 369, 370, 371, 448, 449, 450, 451, 512, 513, 514, 515]) else
  if f = 34 ∧ c = 0 then some ([0, 1, 6, 7], []) else
  if f = 36 ∧ c = 0 then some ([0, 1, 2], [128, 129, 130, 131, 464]) else
  if f = 38 ∧ c = 0 then some ([0, 1, 12, 13], []) else
  if f = 39 ∧ c = 0 then some ([1, 7, 8], [144, 176, 512]) else
  if f = 42 ∧ c = 0 then some ([0, 2, 3, 4], [32, 48, 304]) else
  if f = 44 ∧ c = 0 then some ([1, 3, 4], [16, 240, 241, 242, 243, 640, 641, 642, 643, 896, 897, 898, 899, 992, 1104, 1105, 1106, 1107, 1200, 1312]) else
  if f = 44 ∧ c = 2 then some ([1, 3, 6], [16, 240, 241, 242, 243, 640, 641, 642, 643, 896, 897, 898, 899, 992, 1104, 1105, 1106, 1107, 1200, 1312]) else
  if f = 44 ∧ c = 4 then some ([3], [240, 241, 242, 243, 640, 641, 642, 643, 896, 897, 898, 899, 992, 1104, 1105, 1106, 1107, 1200, 1312]) else
  if f = 44 ∧ c = 6 then some ([3, 8, 9], [240, 241, 242, 243, 640, 641, 642, 643, 896, 897, 898, 899, 992, 1104, 1105, 1106, 1107, 1200, 1312, 1552]) else
  if f = 47 ∧ c = 0 then some ([1, 2, 4], [16, 32, 352, 353, 354, 355]) else
  if f = 48 ∧ c = 0 then some ([4, 5, 16, 17, 18], [80, 256, 257, 258, 259]) else
  if f = 49 ∧ c = 0 then some ([0, 2, 6, 7, 8], [240]) else
  if f = 53 ∧ c = 0 then some ([1, 3], [16]) else
  if f = 53 ∧ c = 2 then some ([1, 7], [16]) else
  if f = 60 ∧ c = 0 then some ([0, 1, 6], []) else
  if f = 61 ∧ c = 0 then some ([0, 3], []) else
  none
def keepXT (f c : Nat) : Option (List Nat × List Nat) :=
  if f = 3 ∧ c = 0 then some ([0, 1, 2, 6], [1056, 1057, 1058, 1059]) else
  if f = 3 ∧ c = 2 then some ([0, 1, 6, 10], [976, 1056, 1057, 1058, 1059]) else
  if f = 5 ∧ c = 0 then some ([6, 9, 10, 11, 12], [448, 480, 512, 544, 545, 546, 547, 576, 577, 578, 579, 592, 624, 832, 928, 929, 930, 931]) else
  if f = 7 ∧ c = 1 then some ([18, 19], [304, 576, 656, 864, 944, 1024, 1184, 1216, 1312, 1344, 1376, 1520, 1552, 1648, 1936, 2160, 2161, 2162, 2163]) else
  if f = 7 ∧ c = 3 then some ([18, 19], [304, 576, 656, 864, 944, 1024, 1184, 1216, 1312, 1344, 1376, 1520, 1552, 1648, 1936, 2160, 2161, 2162, 2163]) else
  if f = 8 ∧ c = 0 then some ([1, 4, 7], [480, 1008, 1009, 1010, 1011]) else
  if f = 11 ∧ c = 0 then some ([0, 1], [0, 16, 48, 49, 50, 51, 224]) else
  if f = 12 ∧ c = 1 then some ([4, 9], [64, 144, 368, 369, 370, 371, 448, 449, 450, 451, 800, 801, 802, 803, 1232, 1233, 1234, 1235, 1488, 1489, 1490, 1491, 1648, 1649, 1650, 1651, 1808, 1809, 1810, 1811, 1968, 1969, 1970, 1971, 2528]) else
  if f = 13 ∧ c = 0 then some ([4], []) else
  if f = 14 ∧ c = 0 then some ([2], [320]) else
  if f = 15 ∧ c = 0 then some ([2, 4], [2144]) else
  if f = 15 ∧ c = 3 then some ([2, 3, 4, 5], [80, 176, 608, 609, 610, 611, 720, 721, 722, 723, 896, 976, 977, 978, 979, 1056, 1057, 1058, 1059, 1104, 1105, 1106, 1107, 1232, 1233, 1234, 1235, 1280, 1281, 1282, 1283, 1360, 1361, 1362, 1363, 1408, 1409, 1410, 1411, 1456, 1457, 1458, 1459, 1504, 1505, 1506, 1507, 1584, 1585, 1586, 1587, 1632, 1633, 1634, 1635, 1712, 1713, 1714, 1715, 1984, 2144]) else
  if f = 15 ∧ c = 5 then some ([2, 3, 4, 5], [80, 176, 608, 609, 610, 611, 720, 721, 722, 723, 896, 976, 977, 978, 979, 1056, 1057, 1058, 1059, 1104, 1105, 1106, 1107, 1232, 1233, 1234, 1235, 1280, 1281, 1282, 1283, 1360, 1361, 1362, 1363, 1408, 1409, 1410, 1411, 1456, 1457, 1458, 1459, 1504, 1505, 1506, 1507, 1584, 1585, 1586, 1587, 1632, 1633, 1634, 1635, 1712, 1713, 1714, 1715, 1984, 2144]) else
  if f = 16 ∧ c = 0 then some ([2], [528]) else
  if f = 17 ∧ c = 0 then some ([2, 3], [560]) else
  if f = 18 ∧ c = 0 then some ([2, 3, 4], [32, 48]) else
  if f = 22 ∧ c = 0 then some ([4, 6], [64, 96, 512]) else
  if f = 24 ∧ c = 0 then some ([2, 3], [32, 48, 208, 209, 210, 211]) else
  if f = 27 ∧ c = 1 then some ([1, 2, 3], [16, 160, 161, 162, 163, 288, 289, 290, 291, 448, 449, 450, 451, 576, 577, 578, 579, 720, 721, 722, 723, 912, 913, 914, 915, 1152, 1153, 1154, 1155, 1296, 1297, 1298, 1299, 1456, 1457, 1458, 1459, 1616, 1617, 1618, 1619, 1712, 1713, 1714, 1715]) else
  if f = 27 ∧ c = 3 then some ([1, 2, 3], [16, 160, 161, 162, 163, 288, 289, 290, 291, 448, 449, 450, 451, 576, 577, 578, 579, 720, 721, 722, 723, 912, 913, 914, 915, 1152, 1153, 1154, 1155, 1296, 1297, 1298, 1299, 1456, 1457, 1458, 1459, 1616, 1617, 1618, 1619, 1712, 1713, 1714, 1715]) else
  if f = 29 ∧ c = 1 then some ([2, 3], [128, 144, 464, 465, 466, 467, 560, 561, 562, 563, 784, 785, 786, 787, 880, 881, 882, 883, 1024, 1025, 1026, 1027, 1216, 1217, 1218, 1219, 1456, 1457, 1458, 1459, 1600, 1601, 1602, 1603, 1760, 1761, 1762, 1763, 1984, 1985, 1986, 1987]) else
  if f = 29 ∧ c = 3 then some ([2, 3], [128, 144, 464, 465, 466, 467, 560, 561, 562, 563, 784, 785, 786, 787, 880, 881, 882, 883, 1024, 1025, 1026, 1027, 1216, 1217, 1218, 1219, 1456, 1457, 1458, 1459, 1600, 1601, 1602, 1603, 1760, 1761, 1762, 1763, 1984, 1985, 1986, 1987]) else
  if f = 30 ∧ c = 0 then some ([0, 1], [0, 16, 112, 113, 114, 115, 368, 369, 370, 371, 448, 449, 450, 451, 512, 513, 514, 515]) else
  if f = 34 ∧ c = 0 then some ([4, 5, 6], []) else
  if f = 36 ∧ c = 0 then some ([0, 6], [128, 129, 130, 131, 464]) else
  if f = 38 ∧ c = 0 then some ([4], []) else
  if f = 39 ∧ c = 0 then some ([6, 7], [144, 176, 512]) else
  if f = 42 ∧ c = 0 then some ([2, 3], [32, 48, 304]) else
  if f = 44 ∧ c = 0 then some ([1, 2, 3], [16, 240, 241, 242, 243, 640, 641, 642, 643, 896, 897, 898, 899, 992, 1104, 1105, 1106, 1107, 1200, 1312, 1552]) else
  if f = 44 ∧ c = 2 then some ([2, 3], [240, 241, 242, 243, 640, 641, 642, 643, 896, 897, 898, 899, 992, 1104, 1105, 1106, 1107, 1200, 1312, 1552]) else
  if f = 44 ∧ c = 4 then some ([2, 3], [240, 241, 242, 243, 640, 641, 642, 643, 896, 897, 898, 899, 992, 1104, 1105, 1106, 1107, 1200, 1312, 1552]) else
  if f = 44 ∧ c = 6 then some ([2, 8], [1552]) else
  if f = 47 ∧ c = 0 then some ([1, 2, 3], [16, 32, 352, 353, 354, 355]) else
  if f = 48 ∧ c = 0 then some ([4, 5], [80]) else
  if f = 49 ∧ c = 0 then some ([6], [240]) else
  if f = 53 ∧ c = 0 then some ([1, 2], [16]) else
  if f = 53 ∧ c = 2 then some ([2], []) else
  if f = 60 ∧ c = 0 then some ([4, 5], []) else
  if f = 61 ∧ c = 0 then some ([0, 2], []) else
  none
def splT (f t : Nat) : Nat :=
  if f = 36 ∧ t = 17 then 8 else
  if f = 39 ∧ t = 20 then 8 else
  0
def fnL : List Nat := [3, 4, 5, 6, 7, 8, 9, 10, 11, 12, 13, 14, 15, 16, 17, 18, 19, 20, 21, 22, 23, 24, 25, 26, 27, 28, 29, 30, 31, 32, 33, 34, 35, 36, 37, 38, 39, 40, 41, 42, 43, 44, 45, 46, 47, 48, 49, 50, 51, 52, 53, 54, 55, 56, 57, 58, 59, 60, 61]
def cfg : Cfg := { isF := fun f => decide (f ∈ fnL), keep := keepT, dyn := dynT, byref := fun f => decide (f ∈ ([] : List Nat)), thaw := fun f => decide (f ∈ ([51] : List Nat)), prim := fun _ => none, spl := splT, keepX := keepXT, inp := fun f => decide (f ∈ ([] : List Nat)) }
theorem tests : fnL.all (fnOkB Try.prog cfg) = true := by kernel_rfl
theorem mixed : Try.prog.follows .mixedOrders = true := by kernel_rfl
theorem fnOk {pk : PKs} (h : PKsOk Try.prog pk) (k : Nat) : FnOk Try.prog (evF Try.prog (cfg.with pk) k) := h.fn mixed (fun f hf => by simpa [cfg] using hf) tests k
end Go.Proofs.Ytmjgiplgghmapaa

