/- The engine's tables for this seat's program: written by a program of ours. -/
import Derived.Test.YtoagnbpmoihojaaDoorEg
import Derived.Test.YtoagnbpmoihojaaDoorProg
set_option maxRecDepth 100000
namespace Go.Proofs.YtoagnbpmoihojaaDoor
open Go.Sx

def Tryd.ti1 : TI := { k := .func, size := 1, bytes := 8, zero := .nilfunc, cmp := false }
def Tryd.ti2 : TI := { k := .int .i64, size := 1, bytes := 8, zero := .int .i64 0, cmp := true }
def Tryd.ti3 : TI := { k := .int .i64, size := 1, bytes := 8, zero := .int .i64 0, cmp := true }
def Tryd.ti4 : TI := { k := .bool, size := 1, bytes := 1, zero := .bool false, cmp := true }
def Tryd.ti5 : TI := { k := .int .u8, size := 1, bytes := 1, zero := .int .u8 0, cmp := true }
def Tryd.ti6 : TI := { k := .int .u8, size := 1, bytes := 1, zero := .int .u8 0, cmp := true }
def Tryd.ti7 : TI := { k := .struct [(0, 2), (1, 3), (2, 4), (3, 6)], size := 4, bytes := 24, zero := .agg [.int .i64 0, .int .i64 0, .bool false, .int .u8 0], cmp := true }
def Tryd.ti8 : TI := { k := .struct [(0, 2), (1, 3), (2, 4), (3, 6)], size := 4, bytes := 24, zero := .agg [.int .i64 0, .int .i64 0, .bool false, .int .u8 0], cmp := true }
def Tryd.ti9 : TI := { k := .string, size := 1, bytes := 16, zero := .str [], cmp := true }
def Tryd.ti10 : TI := { k := .string, size := 1, bytes := 16, zero := .str [], cmp := true }
def Tryd.ti11 : TI := { k := .string, size := 1, bytes := 16, zero := .str [], cmp := true }
def Tryd.ti12 : TI := { k := .int .u64, size := 1, bytes := 8, zero := .int .u64 0, cmp := true }
def Tryd.ti15 : TI := { k := .ptr, size := 1, bytes := 8, zero := .nilptr, cmp := false }
def Tryd.ti16 : TI := { k := .ptr, size := 1, bytes := 8, zero := .nilptr, cmp := false }
def Tryd.ti17 : TI := { k := .ptr, size := 1, bytes := 8, zero := .nilptr, cmp := false }
def Tryd.ti18 : TI := { k := .struct [(0, 17)], size := 1, bytes := 8, zero := .agg [.nilptr], cmp := false }
def Tryd.ti19 : TI := { k := .struct [(0, 17)], size := 1, bytes := 8, zero := .agg [.nilptr], cmp := false }
def Tryd.ti20 : TI := { k := .iface, size := 1, bytes := 16, zero := .niliface, cmp := false }
def Tryd.ti21 : TI := { k := .int .i32, size := 1, bytes := 4, zero := .int .i32 0, cmp := true }
def Tryd.ti22 : TI := { k := .struct [(0, 3), (1, 3), (2, 5), (3, 3), (4, 3), (5, 3), (6, 4)], size := 7, bytes := 56, zero := .agg [.int .i64 0, .int .i64 0, .int .u8 0, .int .i64 0, .int .i64 0, .int .i64 0, .bool false], cmp := true }
def Tryd.ti23 : TI := { k := .struct [(0, 3), (1, 3), (2, 5), (3, 3), (4, 3), (5, 3), (6, 4)], size := 7, bytes := 56, zero := .agg [.int .i64 0, .int .i64 0, .int .u8 0, .int .i64 0, .int .i64 0, .int .i64 0, .bool false], cmp := true }
def Tryd.ti24 : TI := { k := .int .i64, size := 1, bytes := 8, zero := .int .i64 0, cmp := true }
def Tryd.ti26 : TI := { k := .func, size := 1, bytes := 8, zero := .nilfunc, cmp := false }
def Tryd.ti27 : TI := { k := .func, size := 1, bytes := 8, zero := .nilfunc, cmp := false }
def Tryd.ti28 : TI := { k := .func, size := 1, bytes := 8, zero := .nilfunc, cmp := false }
def Tryd.ti29 : TI := { k := .func, size := 1, bytes := 8, zero := .nilfunc, cmp := false }
def Tryd.ti30 : TI := { k := .func, size := 1, bytes := 8, zero := .nilfunc, cmp := false }
def Tryd.ti31 : TI := { k := .slice 59, size := 1, bytes := 24, zero := .nils, cmp := false }
def Tryd.ti32 : TI := { k := .struct [(0, 3), (1, 3), (2, 3), (3, 3), (4, 31)], size := 5, bytes := 56, zero := .agg [.int .i64 0, .int .i64 0, .int .i64 0, .int .i64 0, .nils], cmp := false }
def Tryd.ti33 : TI := { k := .struct [(0, 3), (1, 3), (2, 3), (3, 3), (4, 31)], size := 5, bytes := 56, zero := .agg [.int .i64 0, .int .i64 0, .int .i64 0, .int .i64 0, .nils], cmp := false }
def Tryd.ti34 : TI := { k := .slice 49, size := 1, bytes := 24, zero := .nils, cmp := false }
def Tryd.ti35 : TI := { k := .func, size := 1, bytes := 8, zero := .nilfunc, cmp := false }
def Tryd.ti36 : TI := { k := .func, size := 1, bytes := 8, zero := .nilfunc, cmp := false }
def Tryd.ti37 : TI := { k := .func, size := 1, bytes := 8, zero := .nilfunc, cmp := false }
def Tryd.ti38 : TI := { k := .func, size := 1, bytes := 8, zero := .nilfunc, cmp := false }
def Tryd.ti39 : TI := { k := .slice 23, size := 1, bytes := 24, zero := .nils, cmp := false }
def Tryd.ti40 : TI := { k := .func, size := 1, bytes := 8, zero := .nilfunc, cmp := false }
def Tryd.ti41 : TI := { k := .func, size := 1, bytes := 8, zero := .nilfunc, cmp := false }
def Tryd.ti42 : TI := { k := .func, size := 1, bytes := 8, zero := .nilfunc, cmp := false }
def Tryd.ti43 : TI := { k := .func, size := 1, bytes := 8, zero := .nilfunc, cmp := false }
def Tryd.ti44 : TI := { k := .func, size := 1, bytes := 8, zero := .nilfunc, cmp := false }
def Tryd.ti45 : TI := { k := .func, size := 1, bytes := 8, zero := .nilfunc, cmp := false }
def Tryd.ti46 : TI := { k := .struct [(0, 3), (1, 3), (2, 3)], size := 3, bytes := 24, zero := .agg [.int .i64 0, .int .i64 0, .int .i64 0], cmp := true }
def Tryd.ti47 : TI := { k := .struct [(0, 3), (1, 3), (2, 3)], size := 3, bytes := 24, zero := .agg [.int .i64 0, .int .i64 0, .int .i64 0], cmp := true }
def Tryd.ti48 : TI := { k := .struct [(0, 3), (1, 3), (2, 47), (5, 4), (6, 4), (7, 4), (8, 3)], size := 9, bytes := 56, zero := .agg [.int .i64 0, .int .i64 0, .int .i64 0, .int .i64 0, .int .i64 0, .bool false, .bool false, .bool false, .int .i64 0], cmp := true }
def Tryd.ti49 : TI := { k := .struct [(0, 3), (1, 3), (2, 47), (5, 4), (6, 4), (7, 4), (8, 3)], size := 9, bytes := 56, zero := .agg [.int .i64 0, .int .i64 0, .int .i64 0, .int .i64 0, .int .i64 0, .bool false, .bool false, .bool false, .int .i64 0], cmp := true }
def Tryd.ti50 : TI := { k := .slice 9, size := 1, bytes := 24, zero := .nils, cmp := false }
def Tryd.ti51 : TI := { k := .struct [(0, 3), (1, 3), (2, 3)], size := 3, bytes := 24, zero := .agg [.int .i64 0, .int .i64 0, .int .i64 0], cmp := true }
def Tryd.ti52 : TI := { k := .struct [(0, 3), (1, 3), (2, 3)], size := 3, bytes := 24, zero := .agg [.int .i64 0, .int .i64 0, .int .i64 0], cmp := true }
def Tryd.ti53 : TI := { k := .slice 3, size := 1, bytes := 24, zero := .nils, cmp := false }
def Tryd.ti54 : TI := { k := .slice 91, size := 1, bytes := 24, zero := .nils, cmp := false }
def Tryd.ti55 : TI := { k := .struct [(0, 3), (1, 52), (4, 53), (5, 54)], size := 6, bytes := 80, zero := .agg [.int .i64 0, .int .i64 0, .int .i64 0, .int .i64 0, .nils, .nils], cmp := false }
def Tryd.ti56 : TI := { k := .struct [(0, 3), (1, 52), (4, 53), (5, 54)], size := 6, bytes := 80, zero := .agg [.int .i64 0, .int .i64 0, .int .i64 0, .int .i64 0, .nils, .nils], cmp := false }
def Tryd.ti57 : TI := { k := .slice 61, size := 1, bytes := 24, zero := .nils, cmp := false }
def Tryd.ti58 : TI := { k := .struct [(0, 56), (6, 3), (7, 3), (8, 4), (9, 57)], size := 10, bytes := 128, zero := .agg [.int .i64 0, .int .i64 0, .int .i64 0, .int .i64 0, .nils, .nils, .int .i64 0, .int .i64 0, .bool false, .nils], cmp := false }
def Tryd.ti59 : TI := { k := .struct [(0, 56), (6, 3), (7, 3), (8, 4), (9, 57)], size := 10, bytes := 128, zero := .agg [.int .i64 0, .int .i64 0, .int .i64 0, .int .i64 0, .nils, .nils, .int .i64 0, .int .i64 0, .bool false, .nils], cmp := false }
def Tryd.ti60 : TI := { k := .struct [(0, 5), (1, 3), (2, 3), (3, 3), (4, 3), (5, 3), (6, 3), (7, 53)], size := 8, bytes := 80, zero := .agg [.int .u8 0, .int .i64 0, .int .i64 0, .int .i64 0, .int .i64 0, .int .i64 0, .int .i64 0, .nils], cmp := false }
def Tryd.ti61 : TI := { k := .struct [(0, 5), (1, 3), (2, 3), (3, 3), (4, 3), (5, 3), (6, 3), (7, 53)], size := 8, bytes := 80, zero := .agg [.int .u8 0, .int .i64 0, .int .i64 0, .int .i64 0, .int .i64 0, .int .i64 0, .int .i64 0, .nils], cmp := false }
def Tryd.ti62 : TI := { k := .func, size := 1, bytes := 8, zero := .nilfunc, cmp := false }
def Tryd.ti63 : TI := { k := .func, size := 1, bytes := 8, zero := .nilfunc, cmp := false }
def Tryd.ti64 : TI := { k := .func, size := 1, bytes := 8, zero := .nilfunc, cmp := false }
def Tryd.ti66 : TI := { k := .func, size := 1, bytes := 8, zero := .nilfunc, cmp := false }
def Tryd.ti67 : TI := { k := .func, size := 1, bytes := 8, zero := .nilfunc, cmp := false }
def Tryd.ti68 : TI := { k := .func, size := 1, bytes := 8, zero := .nilfunc, cmp := false }
def Tryd.ti69 : TI := { k := .func, size := 1, bytes := 8, zero := .nilfunc, cmp := false }
def Tryd.ti70 : TI := { k := .array 3 3, size := 3, bytes := 24, zero := .agg [.int .i64 0, .int .i64 0, .int .i64 0], cmp := true }
def Tryd.ti71 : TI := { k := .ptr, size := 1, bytes := 8, zero := .nilptr, cmp := false }
def Tryd.ti72 : TI := { k := .slice 5, size := 1, bytes := 24, zero := .nils, cmp := false }
def Tryd.ti73 : TI := { k := .struct [(0, 71), (1, 72)], size := 2, bytes := 32, zero := .agg [.nilptr, .nils], cmp := false }
def Tryd.ti74 : TI := { k := .struct [(0, 71), (1, 72)], size := 2, bytes := 32, zero := .agg [.nilptr, .nils], cmp := false }
def Tryd.ti75 : TI := { k := .func, size := 1, bytes := 8, zero := .nilfunc, cmp := false }
def Tryd.ti76 : TI := { k := .iface, size := 1, bytes := 16, zero := .niliface, cmp := false }
def Tryd.ti77 : TI := { k := .iface, size := 1, bytes := 16, zero := .niliface, cmp := false }
def Tryd.ti78 : TI := { k := .func, size := 1, bytes := 8, zero := .nilfunc, cmp := false }
def Tryd.ti80 : TI := { k := .func, size := 1, bytes := 8, zero := .nilfunc, cmp := false }
def Tryd.ti81 : TI := { k := .func, size := 1, bytes := 8, zero := .nilfunc, cmp := false }
def Tryd.ti82 : TI := { k := .func, size := 1, bytes := 8, zero := .nilfunc, cmp := false }
def Tryd.ti83 : TI := { k := .func, size := 1, bytes := 8, zero := .nilfunc, cmp := false }
def Tryd.ti84 : TI := { k := .func, size := 1, bytes := 8, zero := .nilfunc, cmp := false }
def Tryd.ti85 : TI := { k := .func, size := 1, bytes := 8, zero := .nilfunc, cmp := false }
def Tryd.ti86 : TI := { k := .map 47 4, size := 1, bytes := 8, zero := .nilmap, cmp := false }
def Tryd.ti87 : TI := { k := .func, size := 1, bytes := 8, zero := .nilfunc, cmp := false }
def Tryd.ti88 : TI := { k := .struct [(0, 4), (1, 3), (2, 3), (3, 3), (4, 3)], size := 5, bytes := 40, zero := .agg [.bool false, .int .i64 0, .int .i64 0, .int .i64 0, .int .i64 0], cmp := true }
def Tryd.ti89 : TI := { k := .struct [(0, 4), (1, 3), (2, 3), (3, 3), (4, 3)], size := 5, bytes := 40, zero := .agg [.bool false, .int .i64 0, .int .i64 0, .int .i64 0, .int .i64 0], cmp := true }
def Tryd.ti90 : TI := { k := .struct [(0, 89), (5, 3)], size := 6, bytes := 48, zero := .agg [.bool false, .int .i64 0, .int .i64 0, .int .i64 0, .int .i64 0, .int .i64 0], cmp := true }
def Tryd.ti91 : TI := { k := .struct [(0, 89), (5, 3)], size := 6, bytes := 48, zero := .agg [.bool false, .int .i64 0, .int .i64 0, .int .i64 0, .int .i64 0, .int .i64 0], cmp := true }
def Tryd.ti92 : TI := { k := .func, size := 1, bytes := 8, zero := .nilfunc, cmp := false }
def Tryd.ti93 : TI := { k := .func, size := 1, bytes := 8, zero := .nilfunc, cmp := false }
def Tryd.ti94 : TI := { k := .func, size := 1, bytes := 8, zero := .nilfunc, cmp := false }
def Tryd.ti96 : TI := { k := .func, size := 1, bytes := 8, zero := .nilfunc, cmp := false }
def Tryd.ti97 : TI := { k := .func, size := 1, bytes := 8, zero := .nilfunc, cmp := false }
def Tryd.ti98 : TI := { k := .ptr, size := 1, bytes := 8, zero := .nilptr, cmp := false }
def Tryd.ti99 : TI := { k := .func, size := 1, bytes := 8, zero := .nilfunc, cmp := false }
def Tryd.ti100 : TI := { k := .int .u64, size := 1, bytes := 8, zero := .int .u64 0, cmp := true }
def Tryd.ti101 : TI := { k := .func, size := 1, bytes := 8, zero := .nilfunc, cmp := false }
def Tryd.ti102 : TI := { k := .func, size := 1, bytes := 8, zero := .nilfunc, cmp := false }
def Tryd.ti103 : TI := { k := .func, size := 1, bytes := 8, zero := .nilfunc, cmp := false }
def Tryd.ti104 : TI := { k := .func, size := 1, bytes := 8, zero := .nilfunc, cmp := false }
def Tryd.ti106 : TI := { k := .func, size := 1, bytes := 8, zero := .nilfunc, cmp := false }
def Tryd.ti107 : TI := { k := .func, size := 1, bytes := 8, zero := .nilfunc, cmp := false }
def Tryd.ti108 : TI := { k := .func, size := 1, bytes := 8, zero := .nilfunc, cmp := false }
def Tryd.ti109 : TI := { k := .func, size := 1, bytes := 8, zero := .nilfunc, cmp := false }
def Tryd.ti110 : TI := { k := .func, size := 1, bytes := 8, zero := .nilfunc, cmp := false }
def Tryd.ti111 : TI := { k := .func, size := 1, bytes := 8, zero := .nilfunc, cmp := false }
def Tryd.ti112 : TI := { k := .func, size := 1, bytes := 8, zero := .nilfunc, cmp := false }
def Tryd.ti113 : TI := { k := .func, size := 1, bytes := 8, zero := .nilfunc, cmp := false }
def Tryd.ti114 : TI := { k := .array 24 5, size := 24, bytes := 24, zero := .agg [.int .u8 0, .int .u8 0, .int .u8 0, .int .u8 0, .int .u8 0, .int .u8 0, .int .u8 0, .int .u8 0, .int .u8 0, .int .u8 0, .int .u8 0, .int .u8 0, .int .u8 0, .int .u8 0, .int .u8 0, .int .u8 0, .int .u8 0, .int .u8 0, .int .u8 0, .int .u8 0, .int .u8 0, .int .u8 0, .int .u8 0, .int .u8 0], cmp := true }
def Tryd.ti115 : TI := { k := .func, size := 1, bytes := 8, zero := .nilfunc, cmp := false }
def Tryd.ti116 : TI := { k := .func, size := 1, bytes := 8, zero := .nilfunc, cmp := false }
def Tryd.ti118 : TI := { k := .func, size := 1, bytes := 8, zero := .nilfunc, cmp := false }
def Tryd.ti119 : TI := { k := .func, size := 1, bytes := 8, zero := .nilfunc, cmp := false }
def Tryd.ti120 : TI := { k := .func, size := 1, bytes := 8, zero := .nilfunc, cmp := false }
def Tryd.ti121 : TI := { k := .func, size := 1, bytes := 8, zero := .nilfunc, cmp := false }
def Tryd.ti122 : TI := { k := .func, size := 1, bytes := 8, zero := .nilfunc, cmp := false }
def Tryd.ti123 : TI := { k := .func, size := 1, bytes := 8, zero := .nilfunc, cmp := false }
def Tryd.ti124 : TI := { k := .func, size := 1, bytes := 8, zero := .nilfunc, cmp := false }
def Tryd.ti125 : TI := { k := .func, size := 1, bytes := 8, zero := .nilfunc, cmp := false }
def Tryd.ti126 : TI := { k := .func, size := 1, bytes := 8, zero := .nilfunc, cmp := false }
def Tryd.ti128 : TI := { k := .func, size := 1, bytes := 8, zero := .nilfunc, cmp := false }
def Tryd.ti129 : TI := { k := .func, size := 1, bytes := 8, zero := .nilfunc, cmp := false }
def Tryd.ti130 : TI := { k := .func, size := 1, bytes := 8, zero := .nilfunc, cmp := false }
def Tryd.ti131 : TI := { k := .func, size := 1, bytes := 8, zero := .nilfunc, cmp := false }
def Tryd.ti132 : TI := { k := .array 20 100, size := 20, bytes := 160, zero := .agg [.int .u64 0, .int .u64 0, .int .u64 0, .int .u64 0, .int .u64 0, .int .u64 0, .int .u64 0, .int .u64 0, .int .u64 0, .int .u64 0, .int .u64 0, .int .u64 0, .int .u64 0, .int .u64 0, .int .u64 0, .int .u64 0, .int .u64 0, .int .u64 0, .int .u64 0, .int .u64 0], cmp := true }
def Tryd.ti133 : TI := { k := .int .u32, size := 1, bytes := 4, zero := .int .u32 0, cmp := true }
def Tryd.ti134 : TI := { k := .array 65 5, size := 65, bytes := 65, zero := .agg [.int .u8 0, .int .u8 0, .int .u8 0, .int .u8 0, .int .u8 0, .int .u8 0, .int .u8 0, .int .u8 0, .int .u8 0, .int .u8 0, .int .u8 0, .int .u8 0, .int .u8 0, .int .u8 0, .int .u8 0, .int .u8 0, .int .u8 0, .int .u8 0, .int .u8 0, .int .u8 0, .int .u8 0, .int .u8 0, .int .u8 0, .int .u8 0, .int .u8 0, .int .u8 0, .int .u8 0, .int .u8 0, .int .u8 0, .int .u8 0, .int .u8 0, .int .u8 0, .int .u8 0, .int .u8 0, .int .u8 0, .int .u8 0, .int .u8 0, .int .u8 0, .int .u8 0, .int .u8 0, .int .u8 0, .int .u8 0, .int .u8 0, .int .u8 0, .int .u8 0, .int .u8 0, .int .u8 0, .int .u8 0, .int .u8 0, .int .u8 0, .int .u8 0, .int .u8 0, .int .u8 0, .int .u8 0, .int .u8 0, .int .u8 0, .int .u8 0, .int .u8 0, .int .u8 0, .int .u8 0, .int .u8 0, .int .u8 0, .int .u8 0, .int .u8 0, .int .u8 0], cmp := true }
def Tryd.ti135 : TI := { k := .func, size := 1, bytes := 8, zero := .nilfunc, cmp := false }
def Tryd.ti136 : TI := { k := .int .u64, size := 1, bytes := 8, zero := .int .u64 0, cmp := true }
def Tryd.ti137 : TI := { k := .func, size := 1, bytes := 8, zero := .nilfunc, cmp := false }
def Tryd.ti138 : TI := { k := .func, size := 1, bytes := 8, zero := .nilfunc, cmp := false }
def Tryd.ti140 : TI := { k := .struct [(0, 5), (1, 5)], size := 2, bytes := 2, zero := .agg [.int .u8 0, .int .u8 0], cmp := true }
def Tryd.ti141 : TI := { k := .struct [(0, 5), (1, 5)], size := 2, bytes := 2, zero := .agg [.int .u8 0, .int .u8 0], cmp := true }
def Tryd.ti142 : TI := { k := .array 16 141, size := 32, bytes := 32, zero := .agg [.int .u8 0, .int .u8 0, .int .u8 0, .int .u8 0, .int .u8 0, .int .u8 0, .int .u8 0, .int .u8 0, .int .u8 0, .int .u8 0, .int .u8 0, .int .u8 0, .int .u8 0, .int .u8 0, .int .u8 0, .int .u8 0, .int .u8 0, .int .u8 0, .int .u8 0, .int .u8 0, .int .u8 0, .int .u8 0, .int .u8 0, .int .u8 0, .int .u8 0, .int .u8 0, .int .u8 0, .int .u8 0, .int .u8 0, .int .u8 0, .int .u8 0, .int .u8 0], cmp := true }
def Tryd.ti144 : TI := { k := .func, size := 1, bytes := 8, zero := .nilfunc, cmp := false }
def Tryd.ti145 : TI := { k := .array 32 5, size := 32, bytes := 32, zero := .agg [.int .u8 0, .int .u8 0, .int .u8 0, .int .u8 0, .int .u8 0, .int .u8 0, .int .u8 0, .int .u8 0, .int .u8 0, .int .u8 0, .int .u8 0, .int .u8 0, .int .u8 0, .int .u8 0, .int .u8 0, .int .u8 0, .int .u8 0, .int .u8 0, .int .u8 0, .int .u8 0, .int .u8 0, .int .u8 0, .int .u8 0, .int .u8 0, .int .u8 0, .int .u8 0, .int .u8 0, .int .u8 0, .int .u8 0, .int .u8 0, .int .u8 0, .int .u8 0], cmp := true }
def Tryd.ti146 : TI := { k := .array 64 5, size := 64, bytes := 64, zero := .agg [.int .u8 0, .int .u8 0, .int .u8 0, .int .u8 0, .int .u8 0, .int .u8 0, .int .u8 0, .int .u8 0, .int .u8 0, .int .u8 0, .int .u8 0, .int .u8 0, .int .u8 0, .int .u8 0, .int .u8 0, .int .u8 0, .int .u8 0, .int .u8 0, .int .u8 0, .int .u8 0, .int .u8 0, .int .u8 0, .int .u8 0, .int .u8 0, .int .u8 0, .int .u8 0, .int .u8 0, .int .u8 0, .int .u8 0, .int .u8 0, .int .u8 0, .int .u8 0, .int .u8 0, .int .u8 0, .int .u8 0, .int .u8 0, .int .u8 0, .int .u8 0, .int .u8 0, .int .u8 0, .int .u8 0, .int .u8 0, .int .u8 0, .int .u8 0, .int .u8 0, .int .u8 0, .int .u8 0, .int .u8 0, .int .u8 0, .int .u8 0, .int .u8 0, .int .u8 0, .int .u8 0, .int .u8 0, .int .u8 0, .int .u8 0, .int .u8 0, .int .u8 0, .int .u8 0, .int .u8 0, .int .u8 0, .int .u8 0, .int .u8 0, .int .u8 0], cmp := true }
def Tryd.ti147 : TI := { k := .struct [(0, 17), (1, 17), (2, 17), (3, 9)], size := 4, bytes := 40, zero := .agg [.nilptr, .nilptr, .nilptr, .str []], cmp := false }
def Tryd.ti148 : TI := { k := .struct [(0, 17), (1, 17), (2, 17), (3, 9)], size := 4, bytes := 40, zero := .agg [.nilptr, .nilptr, .nilptr, .str []], cmp := false }
def Tryd.ti149 : TI := { k := .array 0 16, size := 0, bytes := 0, zero := .agg [], cmp := false }
def Tryd.ti152 : TI := { k := .int .u8, size := 1, bytes := 1, zero := .int .u8 0, cmp := true }
def Tryd.ti153 : TI := { k := .int .u8, size := 1, bytes := 1, zero := .int .u8 0, cmp := true }
def Tryd.ti154 : TI := { k := .func, size := 1, bytes := 8, zero := .nilfunc, cmp := false }
def Tryd.ti155 : TI := { k := .int .i32, size := 1, bytes := 4, zero := .int .i32 0, cmp := true }
def Tryd.ti156 : TI := { k := .int .i32, size := 1, bytes := 4, zero := .int .i32 0, cmp := true }
def Tryd.ti157 : TI := { k := .struct [(0, 12), (1, 12), (2, 133), (3, 152), (4, 5), (5, 5), (6, 153), (7, 154), (8, 98), (9, 155), (10, 156)], size := 11, bytes := 48, zero := .agg [.int .u64 0, .int .u64 0, .int .u32 0, .int .u8 0, .int .u8 0, .int .u8 0, .int .u8 0, .nilfunc, .nilptr, .int .i32 0, .int .i32 0], cmp := false }
def Tryd.ti158 : TI := { k := .struct [(0, 12), (1, 12), (2, 133), (3, 152), (4, 5), (5, 5), (6, 153), (7, 154), (8, 98), (9, 155), (10, 156)], size := 11, bytes := 48, zero := .agg [.int .u64 0, .int .u64 0, .int .u32 0, .int .u8 0, .int .u8 0, .int .u8 0, .int .u8 0, .nilfunc, .nilptr, .int .i32 0, .int .i32 0], cmp := false }
noncomputable def Tryd.types_ : Tr TI := (.node 77 Tryd.ti77 (.node 40 Tryd.ti40 (.node 21 Tryd.ti21 (.node 10 Tryd.ti10 (.node 5 Tryd.ti5 (.node 3 Tryd.ti3 (.node 2 Tryd.ti2 (.node 1 Tryd.ti1 .nil .nil) .nil) (.node 4 Tryd.ti4 .nil .nil)) (.node 8 Tryd.ti8 (.node 7 Tryd.ti7 (.node 6 Tryd.ti6 .nil .nil) .nil) (.node 9 Tryd.ti9 .nil .nil))) (.node 17 Tryd.ti17 (.node 15 Tryd.ti15 (.node 12 Tryd.ti12 (.node 11 Tryd.ti11 .nil .nil) .nil) (.node 16 Tryd.ti16 .nil .nil)) (.node 19 Tryd.ti19 (.node 18 Tryd.ti18 .nil .nil) (.node 20 Tryd.ti20 .nil .nil)))) (.node 31 Tryd.ti31 (.node 27 Tryd.ti27 (.node 24 Tryd.ti24 (.node 23 Tryd.ti23 (.node 22 Tryd.ti22 .nil .nil) .nil) (.node 26 Tryd.ti26 .nil .nil)) (.node 29 Tryd.ti29 (.node 28 Tryd.ti28 .nil .nil) (.node 30 Tryd.ti30 .nil .nil))) (.node 36 Tryd.ti36 (.node 34 Tryd.ti34 (.node 33 Tryd.ti33 (.node 32 Tryd.ti32 .nil .nil) .nil) (.node 35 Tryd.ti35 .nil .nil)) (.node 38 Tryd.ti38 (.node 37 Tryd.ti37 .nil .nil) (.node 39 Tryd.ti39 .nil .nil))))) (.node 58 Tryd.ti58 (.node 49 Tryd.ti49 (.node 45 Tryd.ti45 (.node 43 Tryd.ti43 (.node 42 Tryd.ti42 (.node 41 Tryd.ti41 .nil .nil) .nil) (.node 44 Tryd.ti44 .nil .nil)) (.node 47 Tryd.ti47 (.node 46 Tryd.ti46 .nil .nil) (.node 48 Tryd.ti48 .nil .nil))) (.node 54 Tryd.ti54 (.node 52 Tryd.ti52 (.node 51 Tryd.ti51 (.node 50 Tryd.ti50 .nil .nil) .nil) (.node 53 Tryd.ti53 .nil .nil)) (.node 56 Tryd.ti56 (.node 55 Tryd.ti55 .nil .nil) (.node 57 Tryd.ti57 .nil .nil)))) (.node 68 Tryd.ti68 (.node 63 Tryd.ti63 (.node 61 Tryd.ti61 (.node 60 Tryd.ti60 (.node 59 Tryd.ti59 .nil .nil) .nil) (.node 62 Tryd.ti62 .nil .nil)) (.node 66 Tryd.ti66 (.node 64 Tryd.ti64 .nil .nil) (.node 67 Tryd.ti67 .nil .nil))) (.node 73 Tryd.ti73 (.node 71 Tryd.ti71 (.node 70 Tryd.ti70 (.node 69 Tryd.ti69 .nil .nil) .nil) (.node 72 Tryd.ti72 .nil .nil)) (.node 75 Tryd.ti75 (.node 74 Tryd.ti74 .nil .nil) (.node 76 Tryd.ti76 .nil .nil)))))) (.node 118 Tryd.ti118 (.node 98 Tryd.ti98 (.node 88 Tryd.ti88 (.node 83 Tryd.ti83 (.node 81 Tryd.ti81 (.node 80 Tryd.ti80 (.node 78 Tryd.ti78 .nil .nil) .nil) (.node 82 Tryd.ti82 .nil .nil)) (.node 86 Tryd.ti86 (.node 85 Tryd.ti85 (.node 84 Tryd.ti84 .nil .nil) .nil) (.node 87 Tryd.ti87 .nil .nil))) (.node 93 Tryd.ti93 (.node 91 Tryd.ti91 (.node 90 Tryd.ti90 (.node 89 Tryd.ti89 .nil .nil) .nil) (.node 92 Tryd.ti92 .nil .nil)) (.node 96 Tryd.ti96 (.node 94 Tryd.ti94 .nil .nil) (.node 97 Tryd.ti97 .nil .nil)))) (.node 108 Tryd.ti108 (.node 103 Tryd.ti103 (.node 101 Tryd.ti101 (.node 100 Tryd.ti100 (.node 99 Tryd.ti99 .nil .nil) .nil) (.node 102 Tryd.ti102 .nil .nil)) (.node 106 Tryd.ti106 (.node 104 Tryd.ti104 .nil .nil) (.node 107 Tryd.ti107 .nil .nil))) (.node 113 Tryd.ti113 (.node 111 Tryd.ti111 (.node 110 Tryd.ti110 (.node 109 Tryd.ti109 .nil .nil) .nil) (.node 112 Tryd.ti112 .nil .nil)) (.node 115 Tryd.ti115 (.node 114 Tryd.ti114 .nil .nil) (.node 116 Tryd.ti116 .nil .nil))))) (.node 137 Tryd.ti137 (.node 128 Tryd.ti128 (.node 123 Tryd.ti123 (.node 121 Tryd.ti121 (.node 120 Tryd.ti120 (.node 119 Tryd.ti119 .nil .nil) .nil) (.node 122 Tryd.ti122 .nil .nil)) (.node 125 Tryd.ti125 (.node 124 Tryd.ti124 .nil .nil) (.node 126 Tryd.ti126 .nil .nil))) (.node 133 Tryd.ti133 (.node 131 Tryd.ti131 (.node 130 Tryd.ti130 (.node 129 Tryd.ti129 .nil .nil) .nil) (.node 132 Tryd.ti132 .nil .nil)) (.node 135 Tryd.ti135 (.node 134 Tryd.ti134 .nil .nil) (.node 136 Tryd.ti136 .nil .nil)))) (.node 148 Tryd.ti148 (.node 144 Tryd.ti144 (.node 141 Tryd.ti141 (.node 140 Tryd.ti140 (.node 138 Tryd.ti138 .nil .nil) .nil) (.node 142 Tryd.ti142 .nil .nil)) (.node 146 Tryd.ti146 (.node 145 Tryd.ti145 .nil .nil) (.node 147 Tryd.ti147 .nil .nil))) (.node 155 Tryd.ti155 (.node 153 Tryd.ti153 (.node 152 Tryd.ti152 (.node 149 Tryd.ti149 .nil .nil) .nil) (.node 154 Tryd.ti154 .nil .nil)) (.node 157 Tryd.ti157 (.node 156 Tryd.ti156 .nil .nil) (.node 158 Tryd.ti158 .nil .nil)))))))
noncomputable def Tryd.funcs_ : Tr Func := (.node 33 Tryd.f33 (.node 14 Tryd.f14 (.node 11 Tryd.f11 (.node 10 Tryd.f10 (.node 9 Tryd.f9 .nil .nil) .nil) (.node 13 Tryd.f13 (.node 12 Tryd.f12 .nil .nil) .nil)) (.node 31 Tryd.f31 (.node 30 Tryd.f30 (.node 29 Tryd.f29 .nil .nil) .nil) (.node 32 Tryd.f32 .nil .nil))) (.node 48 Tryd.f48 (.node 36 Tryd.f36 (.node 35 Tryd.f35 (.node 34 Tryd.f34 .nil .nil) .nil) (.node 37 Tryd.f37 .nil .nil)) (.node 53 Tryd.f53 (.node 52 Tryd.f52 (.node 50 Tryd.f50 .nil .nil) .nil) (.node 54 Tryd.f54 .nil .nil))))
noncomputable def Tryd.pure_ : Tr Unit := (.node 33 () (.node 14 () (.node 11 () (.node 10 () (.node 9 () .nil .nil) .nil) (.node 13 () (.node 12 () .nil .nil) .nil)) (.node 31 () (.node 30 () (.node 29 () .nil .nil) .nil) (.node 32 () .nil .nil))) (.node 48 () (.node 36 () (.node 35 () (.node 34 () .nil .nil) .nil) (.node 37 () .nil .nil)) (.node 53 () (.node 52 () (.node 50 () .nil .nil) .nil) (.node 54 () .nil .nil))))
noncomputable def Tryd.objs_ : Tr Unit := .nil
theorem Tryd.types_ok : Tryd.types_.all (typeB Tryd.prog) = true := by kernel_rfl
theorem Tryd.funcs_ok : Tryd.funcs_.AllP fun f fn => Tryd.prog.funcs[f]? = some fn ∧ fn.body.isSome = true ∧ fn.name ≠ "runtime.NumGoroutine" := by
  exact ⟨⟨Tryd.func33, rfl, of_decide_eq_true (by kernel_rfl)⟩, ⟨⟨Tryd.func14, rfl, of_decide_eq_true (by kernel_rfl)⟩, ⟨⟨Tryd.func11, rfl, of_decide_eq_true (by kernel_rfl)⟩, ⟨⟨Tryd.func10, rfl, of_decide_eq_true (by kernel_rfl)⟩, ⟨⟨Tryd.func9, rfl, of_decide_eq_true (by kernel_rfl)⟩, trivial, trivial⟩, trivial⟩, ⟨⟨Tryd.func13, rfl, of_decide_eq_true (by kernel_rfl)⟩, ⟨⟨Tryd.func12, rfl, of_decide_eq_true (by kernel_rfl)⟩, trivial, trivial⟩, trivial⟩⟩, ⟨⟨Tryd.func31, rfl, of_decide_eq_true (by kernel_rfl)⟩, ⟨⟨Tryd.func30, rfl, of_decide_eq_true (by kernel_rfl)⟩, ⟨⟨Tryd.func29, rfl, of_decide_eq_true (by kernel_rfl)⟩, trivial, trivial⟩, trivial⟩, ⟨⟨Tryd.func32, rfl, of_decide_eq_true (by kernel_rfl)⟩, trivial, trivial⟩⟩⟩, ⟨⟨Tryd.func48, rfl, of_decide_eq_true (by kernel_rfl)⟩, ⟨⟨Tryd.func36, rfl, of_decide_eq_true (by kernel_rfl)⟩, ⟨⟨Tryd.func35, rfl, of_decide_eq_true (by kernel_rfl)⟩, ⟨⟨Tryd.func34, rfl, of_decide_eq_true (by kernel_rfl)⟩, trivial, trivial⟩, trivial⟩, ⟨⟨Tryd.func37, rfl, of_decide_eq_true (by kernel_rfl)⟩, trivial, trivial⟩⟩, ⟨⟨Tryd.func53, rfl, of_decide_eq_true (by kernel_rfl)⟩, ⟨⟨Tryd.func52, rfl, of_decide_eq_true (by kernel_rfl)⟩, ⟨⟨Tryd.func50, rfl, of_decide_eq_true (by kernel_rfl)⟩, trivial, trivial⟩, trivial⟩, ⟨⟨Tryd.func54, rfl, of_decide_eq_true (by kernel_rfl)⟩, trivial, trivial⟩⟩⟩⟩
theorem Tryd.mixed : Tryd.prog.follows .mixedOrders = true := by kernel_rfl
end Go.Proofs.YtoagnbpmoihojaaDoor
