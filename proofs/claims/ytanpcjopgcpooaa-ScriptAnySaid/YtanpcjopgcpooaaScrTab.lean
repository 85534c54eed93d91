/- The tables of this seat's program for the Script statements: written by a program of ours. -/
import Derived.Test.YtanpcjopgcpooaaEg
import Derived.Test.YtanpcjopgcpooaaProg
set_option maxRecDepth 100000
namespace Go.Proofs.Ytanpcjopgcpooaa
open Go.Sx
def Try.ti1 : TI := { k := .func, size := 1, bytes := 8, zero := .nilfunc, cmp := false }
def Try.ti2 : TI := { k := .int .i64, size := 1, bytes := 8, zero := .int .i64 0, cmp := true }
def Try.ti3 : TI := { k := .int .i64, size := 1, bytes := 8, zero := .int .i64 0, cmp := true }
def Try.ti4 : TI := { k := .bool, size := 1, bytes := 1, zero := .bool false, cmp := true }
def Try.ti5 : TI := { k := .int .u8, size := 1, bytes := 1, zero := .int .u8 0, cmp := true }
def Try.ti6 : TI := { k := .int .u8, size := 1, bytes := 1, zero := .int .u8 0, cmp := true }
def Try.ti7 : TI := { k := .struct [(0, 2), (1, 3), (2, 4), (3, 6)], size := 4, bytes := 24, zero := .agg [.int .i64 0, .int .i64 0, .bool false, .int .u8 0], cmp := true }
def Try.ti8 : TI := { k := .struct [(0, 2), (1, 3), (2, 4), (3, 6)], size := 4, bytes := 24, zero := .agg [.int .i64 0, .int .i64 0, .bool false, .int .u8 0], cmp := true }
def Try.ti9 : TI := { k := .string, size := 1, bytes := 16, zero := .str [], cmp := true }
def Try.ti10 : TI := { k := .string, size := 1, bytes := 16, zero := .str [], cmp := true }
def Try.ti11 : TI := { k := .string, size := 1, bytes := 16, zero := .str [], cmp := true }
def Try.ti12 : TI := { k := .int .u64, size := 1, bytes := 8, zero := .int .u64 0, cmp := true }
def Try.ti15 : TI := { k := .ptr, size := 1, bytes := 8, zero := .nilptr, cmp := false }
def Try.ti16 : TI := { k := .ptr, size := 1, bytes := 8, zero := .nilptr, cmp := false }
def Try.ti17 : TI := { k := .ptr, size := 1, bytes := 8, zero := .nilptr, cmp := false }
def Try.ti18 : TI := { k := .struct [(0, 17)], size := 1, bytes := 8, zero := .agg [.nilptr], cmp := false }
def Try.ti19 : TI := { k := .struct [(0, 17)], size := 1, bytes := 8, zero := .agg [.nilptr], cmp := false }
def Try.ti20 : TI := { k := .iface, size := 1, bytes := 16, zero := .niliface, cmp := false }
def Try.ti21 : TI := { k := .int .i32, size := 1, bytes := 4, zero := .int .i32 0, cmp := true }
def Try.ti22 : TI := { k := .func, size := 1, bytes := 8, zero := .nilfunc, cmp := false }
def Try.ti23 : TI := { k := .struct [(0, 3), (1, 3), (2, 3)], size := 3, bytes := 24, zero := .agg [.int .i64 0, .int .i64 0, .int .i64 0], cmp := true }
def Try.ti24 : TI := { k := .struct [(0, 3), (1, 3), (2, 3)], size := 3, bytes := 24, zero := .agg [.int .i64 0, .int .i64 0, .int .i64 0], cmp := true }
def Try.ti25 : TI := { k := .struct [(0, 24), (3, 3), (4, 3), (5, 3), (6, 3), (7, 3), (8, 3), (9, 3), (10, 3)], size := 11, bytes := 88, zero := .agg [.int .i64 0, .int .i64 0, .int .i64 0, .int .i64 0, .int .i64 0, .int .i64 0, .int .i64 0, .int .i64 0, .int .i64 0, .int .i64 0, .int .i64 0], cmp := true }
def Try.ti26 : TI := { k := .struct [(0, 24), (3, 3), (4, 3), (5, 3), (6, 3), (7, 3), (8, 3), (9, 3), (10, 3)], size := 11, bytes := 88, zero := .agg [.int .i64 0, .int .i64 0, .int .i64 0, .int .i64 0, .int .i64 0, .int .i64 0, .int .i64 0, .int .i64 0, .int .i64 0, .int .i64 0, .int .i64 0], cmp := true }
def Try.ti27 : TI := { k := .slice 48, size := 1, bytes := 24, zero := .nils, cmp := false }
def Try.ti28 : TI := { k := .struct [(0, 26), (11, 27)], size := 12, bytes := 112, zero := .agg [.int .i64 0, .int .i64 0, .int .i64 0, .int .i64 0, .int .i64 0, .int .i64 0, .int .i64 0, .int .i64 0, .int .i64 0, .int .i64 0, .int .i64 0, .nils], cmp := false }
def Try.ti29 : TI := { k := .struct [(0, 26), (11, 27)], size := 12, bytes := 112, zero := .agg [.int .i64 0, .int .i64 0, .int .i64 0, .int .i64 0, .int .i64 0, .int .i64 0, .int .i64 0, .int .i64 0, .int .i64 0, .int .i64 0, .int .i64 0, .nils], cmp := false }
def Try.ti30 : TI := { k := .func, size := 1, bytes := 8, zero := .nilfunc, cmp := false }
def Try.ti31 : TI := { k := .func, size := 1, bytes := 8, zero := .nilfunc, cmp := false }
def Try.ti32 : TI := { k := .func, size := 1, bytes := 8, zero := .nilfunc, cmp := false }
def Try.ti33 : TI := { k := .func, size := 1, bytes := 8, zero := .nilfunc, cmp := false }
def Try.ti34 : TI := { k := .slice 29, size := 1, bytes := 24, zero := .nils, cmp := false }
def Try.ti35 : TI := { k := .slice 9, size := 1, bytes := 24, zero := .nils, cmp := false }
def Try.ti36 : TI := { k := .int .i64, size := 1, bytes := 8, zero := .int .i64 0, cmp := true }
def Try.ti38 : TI := { k := .func, size := 1, bytes := 8, zero := .nilfunc, cmp := false }
def Try.ti40 : TI := { k := .func, size := 1, bytes := 8, zero := .nilfunc, cmp := false }
def Try.ti41 : TI := { k := .func, size := 1, bytes := 8, zero := .nilfunc, cmp := false }
def Try.ti42 : TI := { k := .func, size := 1, bytes := 8, zero := .nilfunc, cmp := false }
def Try.ti43 : TI := { k := .func, size := 1, bytes := 8, zero := .nilfunc, cmp := false }
def Try.ti44 : TI := { k := .int .u64, size := 1, bytes := 8, zero := .int .u64 0, cmp := true }
def Try.ti45 : TI := { k := .struct [(0, 44), (1, 3), (2, 3)], size := 3, bytes := 24, zero := .agg [.int .u64 0, .int .i64 0, .int .i64 0], cmp := true }
def Try.ti46 : TI := { k := .struct [(0, 44), (1, 3), (2, 3)], size := 3, bytes := 24, zero := .agg [.int .u64 0, .int .i64 0, .int .i64 0], cmp := true }
def Try.ti47 : TI := { k := .struct [(0, 5), (1, 3), (2, 3), (3, 3), (4, 3), (5, 4), (6, 9), (7, 46), (10, 46)], size := 13, bytes := 112, zero := .agg [.int .u8 0, .int .i64 0, .int .i64 0, .int .i64 0, .int .i64 0, .bool false, .str [], .int .u64 0, .int .i64 0, .int .i64 0, .int .u64 0, .int .i64 0, .int .i64 0], cmp := true }
def Try.ti48 : TI := { k := .struct [(0, 5), (1, 3), (2, 3), (3, 3), (4, 3), (5, 4), (6, 9), (7, 46), (10, 46)], size := 13, bytes := 112, zero := .agg [.int .u8 0, .int .i64 0, .int .i64 0, .int .i64 0, .int .i64 0, .bool false, .str [], .int .u64 0, .int .i64 0, .int .i64 0, .int .u64 0, .int .i64 0, .int .i64 0], cmp := true }
def Try.ti49 : TI := { k := .func, size := 1, bytes := 8, zero := .nilfunc, cmp := false }
def Try.ti50 : TI := { k := .func, size := 1, bytes := 8, zero := .nilfunc, cmp := false }
def Try.ti51 : TI := { k := .slice 65, size := 1, bytes := 24, zero := .nils, cmp := false }
def Try.ti52 : TI := { k := .func, size := 1, bytes := 8, zero := .nilfunc, cmp := false }
def Try.ti53 : TI := { k := .func, size := 1, bytes := 8, zero := .nilfunc, cmp := false }
def Try.ti54 : TI := { k := .struct [(0, 3), (1, 3), (2, 3)], size := 3, bytes := 24, zero := .agg [.int .i64 0, .int .i64 0, .int .i64 0], cmp := true }
def Try.ti55 : TI := { k := .struct [(0, 3), (1, 3), (2, 3)], size := 3, bytes := 24, zero := .agg [.int .i64 0, .int .i64 0, .int .i64 0], cmp := true }
def Try.ti56 : TI := { k := .struct [(0, 3), (1, 3), (2, 55), (5, 4), (6, 4), (7, 4), (8, 3)], size := 9, bytes := 56, zero := .agg [.int .i64 0, .int .i64 0, .int .i64 0, .int .i64 0, .int .i64 0, .bool false, .bool false, .bool false, .int .i64 0], cmp := true }
def Try.ti57 : TI := { k := .struct [(0, 3), (1, 3), (2, 55), (5, 4), (6, 4), (7, 4), (8, 3)], size := 9, bytes := 56, zero := .agg [.int .i64 0, .int .i64 0, .int .i64 0, .int .i64 0, .int .i64 0, .bool false, .bool false, .bool false, .int .i64 0], cmp := true }
def Try.ti58 : TI := { k := .slice 73, size := 1, bytes := 24, zero := .nils, cmp := false }
def Try.ti59 : TI := { k := .struct [(0, 3), (1, 3), (2, 3), (3, 3), (4, 58)], size := 5, bytes := 56, zero := .agg [.int .i64 0, .int .i64 0, .int .i64 0, .int .i64 0, .nils], cmp := false }
def Try.ti60 : TI := { k := .struct [(0, 3), (1, 3), (2, 3), (3, 3), (4, 58)], size := 5, bytes := 56, zero := .agg [.int .i64 0, .int .i64 0, .int .i64 0, .int .i64 0, .nils], cmp := false }
def Try.ti61 : TI := { k := .slice 57, size := 1, bytes := 24, zero := .nils, cmp := false }
def Try.ti62 : TI := { k := .slice 3, size := 1, bytes := 24, zero := .nils, cmp := false }
def Try.ti63 : TI := { k := .slice 174, size := 1, bytes := 24, zero := .nils, cmp := false }
def Try.ti64 : TI := { k := .struct [(0, 3), (1, 4), (2, 4), (3, 4), (4, 60), (9, 61), (10, 62), (11, 3), (12, 63), (13, 63)], size := 14, bytes := 176, zero := .agg [.int .i64 0, .bool false, .bool false, .bool false, .int .i64 0, .int .i64 0, .int .i64 0, .int .i64 0, .nils, .nils, .nils, .int .i64 0, .nils, .nils], cmp := false }
def Try.ti65 : TI := { k := .struct [(0, 3), (1, 4), (2, 4), (3, 4), (4, 60), (9, 61), (10, 62), (11, 3), (12, 63), (13, 63)], size := 14, bytes := 176, zero := .agg [.int .i64 0, .bool false, .bool false, .bool false, .int .i64 0, .int .i64 0, .int .i64 0, .int .i64 0, .nils, .nils, .nils, .int .i64 0, .nils, .nils], cmp := false }
def Try.ti66 : TI := { k := .func, size := 1, bytes := 8, zero := .nilfunc, cmp := false }
def Try.ti67 : TI := { k := .func, size := 1, bytes := 8, zero := .nilfunc, cmp := false }
def Try.ti68 : TI := { k := .slice 118, size := 1, bytes := 24, zero := .nils, cmp := false }
def Try.ti69 : TI := { k := .struct [(0, 3), (1, 24), (4, 62), (5, 68)], size := 6, bytes := 80, zero := .agg [.int .i64 0, .int .i64 0, .int .i64 0, .int .i64 0, .nils, .nils], cmp := false }
def Try.ti70 : TI := { k := .struct [(0, 3), (1, 24), (4, 62), (5, 68)], size := 6, bytes := 80, zero := .agg [.int .i64 0, .int .i64 0, .int .i64 0, .int .i64 0, .nils, .nils], cmp := false }
def Try.ti71 : TI := { k := .slice 76, size := 1, bytes := 24, zero := .nils, cmp := false }
def Try.ti72 : TI := { k := .struct [(0, 70), (6, 3), (7, 3), (8, 4), (9, 71)], size := 10, bytes := 128, zero := .agg [.int .i64 0, .int .i64 0, .int .i64 0, .int .i64 0, .nils, .nils, .int .i64 0, .int .i64 0, .bool false, .nils], cmp := false }
def Try.ti73 : TI := { k := .struct [(0, 70), (6, 3), (7, 3), (8, 4), (9, 71)], size := 10, bytes := 128, zero := .agg [.int .i64 0, .int .i64 0, .int .i64 0, .int .i64 0, .nils, .nils, .int .i64 0, .int .i64 0, .bool false, .nils], cmp := false }
def Try.ti74 : TI := { k := .func, size := 1, bytes := 8, zero := .nilfunc, cmp := false }
def Try.ti75 : TI := { k := .struct [(0, 5), (1, 3), (2, 3), (3, 3), (4, 3), (5, 3), (6, 3), (7, 62)], size := 8, bytes := 80, zero := .agg [.int .u8 0, .int .i64 0, .int .i64 0, .int .i64 0, .int .i64 0, .int .i64 0, .int .i64 0, .nils], cmp := false }
def Try.ti76 : TI := { k := .struct [(0, 5), (1, 3), (2, 3), (3, 3), (4, 3), (5, 3), (6, 3), (7, 62)], size := 8, bytes := 80, zero := .agg [.int .u8 0, .int .i64 0, .int .i64 0, .int .i64 0, .int .i64 0, .int .i64 0, .int .i64 0, .nils], cmp := false }
def Try.ti77 : TI := { k := .func, size := 1, bytes := 8, zero := .nilfunc, cmp := false }
def Try.ti78 : TI := { k := .func, size := 1, bytes := 8, zero := .nilfunc, cmp := false }
def Try.ti79 : TI := { k := .func, size := 1, bytes := 8, zero := .nilfunc, cmp := false }
def Try.ti80 : TI := { k := .ptr, size := 1, bytes := 8, zero := .nilptr, cmp := false }
def Try.ti81 : TI := { k := .struct [(0, 9)], size := 1, bytes := 16, zero := .agg [.str []], cmp := true }
def Try.ti82 : TI := { k := .struct [(0, 9)], size := 1, bytes := 16, zero := .agg [.str []], cmp := true }
def Try.ti83 : TI := { k := .func, size := 1, bytes := 8, zero := .nilfunc, cmp := false }
def Try.ti84 : TI := { k := .func, size := 1, bytes := 8, zero := .nilfunc, cmp := false }
def Try.ti85 : TI := { k := .ptr, size := 1, bytes := 8, zero := .nilptr, cmp := false }
def Try.ti86 : TI := { k := .struct [(0, 9)], size := 1, bytes := 16, zero := .agg [.str []], cmp := true }
def Try.ti87 : TI := { k := .struct [(0, 9)], size := 1, bytes := 16, zero := .agg [.str []], cmp := true }
def Try.ti88 : TI := { k := .func, size := 1, bytes := 8, zero := .nilfunc, cmp := false }
def Try.ti89 : TI := { k := .func, size := 1, bytes := 8, zero := .nilfunc, cmp := false }
def Try.ti90 : TI := { k := .func, size := 1, bytes := 8, zero := .nilfunc, cmp := false }
def Try.ti91 : TI := { k := .slice 5, size := 1, bytes := 24, zero := .nils, cmp := false }
def Try.ti92 : TI := { k := .slice 95, size := 1, bytes := 24, zero := .nils, cmp := false }
def Try.ti93 : TI := { k := .func, size := 1, bytes := 8, zero := .nilfunc, cmp := false }
def Try.ti94 : TI := { k := .ptr, size := 1, bytes := 8, zero := .nilptr, cmp := false }
def Try.ti95 : TI := { k := .ptr, size := 1, bytes := 8, zero := .nilptr, cmp := false }
def Try.ti96 : TI := { k := .func, size := 1, bytes := 8, zero := .nilfunc, cmp := false }
def Try.ti97 : TI := { k := .func, size := 1, bytes := 8, zero := .nilfunc, cmp := false }
def Try.ti98 : TI := { k := .ptr, size := 1, bytes := 8, zero := .nilptr, cmp := false }
def Try.ti99 : TI := { k := .struct [(0, 9), (1, 4)], size := 2, bytes := 24, zero := .agg [.str [], .bool false], cmp := true }
def Try.ti100 : TI := { k := .struct [(0, 9), (1, 4)], size := 2, bytes := 24, zero := .agg [.str [], .bool false], cmp := true }
def Try.ti101 : TI := { k := .func, size := 1, bytes := 8, zero := .nilfunc, cmp := false }
def Try.ti102 : TI := { k := .func, size := 1, bytes := 8, zero := .nilfunc, cmp := false }
def Try.ti103 : TI := { k := .func, size := 1, bytes := 8, zero := .nilfunc, cmp := false }
def Try.ti104 : TI := { k := .func, size := 1, bytes := 8, zero := .nilfunc, cmp := false }
def Try.ti105 : TI := { k := .func, size := 1, bytes := 8, zero := .nilfunc, cmp := false }
def Try.ti106 : TI := { k := .map 109 4, size := 1, bytes := 8, zero := .nilmap, cmp := false }
def Try.ti107 : TI := { k := .map 55 4, size := 1, bytes := 8, zero := .nilmap, cmp := false }
def Try.ti108 : TI := { k := .struct [(0, 3), (1, 3)], size := 2, bytes := 16, zero := .agg [.int .i64 0, .int .i64 0], cmp := true }
def Try.ti109 : TI := { k := .struct [(0, 3), (1, 3)], size := 2, bytes := 16, zero := .agg [.int .i64 0, .int .i64 0], cmp := true }
def Try.ti110 : TI := { k := .func, size := 1, bytes := 8, zero := .nilfunc, cmp := false }
def Try.ti111 : TI := { k := .func, size := 1, bytes := 8, zero := .nilfunc, cmp := false }
def Try.ti112 : TI := { k := .func, size := 1, bytes := 8, zero := .nilfunc, cmp := false }
def Try.ti113 : TI := { k := .func, size := 1, bytes := 8, zero := .nilfunc, cmp := false }
def Try.ti114 : TI := { k := .func, size := 1, bytes := 8, zero := .nilfunc, cmp := false }
def Try.ti115 : TI := { k := .struct [(0, 4), (1, 3), (2, 3), (3, 3), (4, 3)], size := 5, bytes := 40, zero := .agg [.bool false, .int .i64 0, .int .i64 0, .int .i64 0, .int .i64 0], cmp := true }
def Try.ti116 : TI := { k := .struct [(0, 4), (1, 3), (2, 3), (3, 3), (4, 3)], size := 5, bytes := 40, zero := .agg [.bool false, .int .i64 0, .int .i64 0, .int .i64 0, .int .i64 0], cmp := true }
def Try.ti117 : TI := { k := .struct [(0, 116), (5, 3)], size := 6, bytes := 48, zero := .agg [.bool false, .int .i64 0, .int .i64 0, .int .i64 0, .int .i64 0, .int .i64 0], cmp := true }
def Try.ti118 : TI := { k := .struct [(0, 116), (5, 3)], size := 6, bytes := 48, zero := .agg [.bool false, .int .i64 0, .int .i64 0, .int .i64 0, .int .i64 0, .int .i64 0], cmp := true }
def Try.ti119 : TI := { k := .func, size := 1, bytes := 8, zero := .nilfunc, cmp := false }
def Try.ti120 : TI := { k := .map 109 121, size := 1, bytes := 8, zero := .nilmap, cmp := false }
def Try.ti121 : TI := { k := .ptr, size := 1, bytes := 8, zero := .nilptr, cmp := false }
def Try.ti122 : TI := { k := .struct [(0, 116), (5, 62)], size := 6, bytes := 64, zero := .agg [.bool false, .int .i64 0, .int .i64 0, .int .i64 0, .int .i64 0, .nils], cmp := false }
def Try.ti123 : TI := { k := .struct [(0, 116), (5, 62)], size := 6, bytes := 64, zero := .agg [.bool false, .int .i64 0, .int .i64 0, .int .i64 0, .int .i64 0, .nils], cmp := false }
def Try.ti124 : TI := { k := .func, size := 1, bytes := 8, zero := .nilfunc, cmp := false }
def Try.ti125 : TI := { k := .func, size := 1, bytes := 8, zero := .nilfunc, cmp := false }
def Try.ti126 : TI := { k := .func, size := 1, bytes := 8, zero := .nilfunc, cmp := false }
def Try.ti127 : TI := { k := .func, size := 1, bytes := 8, zero := .nilfunc, cmp := false }
def Try.ti128 : TI := { k := .int .u64, size := 1, bytes := 8, zero := .int .u64 0, cmp := true }
def Try.ti129 : TI := { k := .func, size := 1, bytes := 8, zero := .nilfunc, cmp := false }
def Try.ti130 : TI := { k := .func, size := 1, bytes := 8, zero := .nilfunc, cmp := false }
def Try.ti131 : TI := { k := .func, size := 1, bytes := 8, zero := .nilfunc, cmp := false }
def Try.ti132 : TI := { k := .array 8 129, size := 8, bytes := 64, zero := .agg [.nilfunc, .nilfunc, .nilfunc, .nilfunc, .nilfunc, .nilfunc, .nilfunc, .nilfunc], cmp := false }
def Try.ti135 : TI := { k := .func, size := 1, bytes := 8, zero := .nilfunc, cmp := false }
def Try.ti137 : TI := { k := .func, size := 1, bytes := 8, zero := .nilfunc, cmp := false }
def Try.ti138 : TI := { k := .func, size := 1, bytes := 8, zero := .nilfunc, cmp := false }
def Try.ti139 : TI := { k := .func, size := 1, bytes := 8, zero := .nilfunc, cmp := false }
def Try.ti140 : TI := { k := .func, size := 1, bytes := 8, zero := .nilfunc, cmp := false }
def Try.ti141 : TI := { k := .func, size := 1, bytes := 8, zero := .nilfunc, cmp := false }
def Try.ti142 : TI := { k := .slice 140, size := 1, bytes := 24, zero := .nils, cmp := false }
def Try.ti143 : TI := { k := .func, size := 1, bytes := 8, zero := .nilfunc, cmp := false }
def Try.ti144 : TI := { k := .func, size := 1, bytes := 8, zero := .nilfunc, cmp := false }
def Try.ti145 : TI := { k := .func, size := 1, bytes := 8, zero := .nilfunc, cmp := false }
def Try.ti146 : TI := { k := .func, size := 1, bytes := 8, zero := .nilfunc, cmp := false }
def Try.ti147 : TI := { k := .func, size := 1, bytes := 8, zero := .nilfunc, cmp := false }
def Try.ti148 : TI := { k := .func, size := 1, bytes := 8, zero := .nilfunc, cmp := false }
def Try.ti149 : TI := { k := .func, size := 1, bytes := 8, zero := .nilfunc, cmp := false }
def Try.ti150 : TI := { k := .func, size := 1, bytes := 8, zero := .nilfunc, cmp := false }
def Try.ti151 : TI := { k := .slice 24, size := 1, bytes := 24, zero := .nils, cmp := false }
def Try.ti152 : TI := { k := .func, size := 1, bytes := 8, zero := .nilfunc, cmp := false }
def Try.ti153 : TI := { k := .func, size := 1, bytes := 8, zero := .nilfunc, cmp := false }
def Try.ti155 : TI := { k := .func, size := 1, bytes := 8, zero := .nilfunc, cmp := false }
def Try.ti156 : TI := { k := .func, size := 1, bytes := 8, zero := .nilfunc, cmp := false }
def Try.ti157 : TI := { k := .func, size := 1, bytes := 8, zero := .nilfunc, cmp := false }
def Try.ti158 : TI := { k := .func, size := 1, bytes := 8, zero := .nilfunc, cmp := false }
def Try.ti160 : TI := { k := .func, size := 1, bytes := 8, zero := .nilfunc, cmp := false }
def Try.ti161 : TI := { k := .struct [(0, 5), (1, 3), (2, 70), (8, 3)], size := 9, bytes := 104, zero := .agg [.int .u8 0, .int .i64 0, .int .i64 0, .int .i64 0, .int .i64 0, .int .i64 0, .nils, .nils, .int .i64 0], cmp := false }
def Try.ti162 : TI := { k := .struct [(0, 5), (1, 3), (2, 70), (8, 3)], size := 9, bytes := 104, zero := .agg [.int .u8 0, .int .i64 0, .int .i64 0, .int .i64 0, .int .i64 0, .int .i64 0, .nils, .nils, .int .i64 0], cmp := false }
def Try.ti163 : TI := { k := .func, size := 1, bytes := 8, zero := .nilfunc, cmp := false }
def Try.ti164 : TI := { k := .func, size := 1, bytes := 8, zero := .nilfunc, cmp := false }
def Try.ti165 : TI := { k := .func, size := 1, bytes := 8, zero := .nilfunc, cmp := false }
def Try.ti166 : TI := { k := .func, size := 1, bytes := 8, zero := .nilfunc, cmp := false }
def Try.ti167 : TI := { k := .func, size := 1, bytes := 8, zero := .nilfunc, cmp := false }
def Try.ti169 : TI := { k := .func, size := 1, bytes := 8, zero := .nilfunc, cmp := false }
def Try.ti170 : TI := { k := .array 3 3, size := 3, bytes := 24, zero := .agg [.int .i64 0, .int .i64 0, .int .i64 0], cmp := true }
def Try.ti171 : TI := { k := .func, size := 1, bytes := 8, zero := .nilfunc, cmp := false }
def Try.ti172 : TI := { k := .func, size := 1, bytes := 8, zero := .nilfunc, cmp := false }
def Try.ti173 : TI := { k := .struct [(0, 5), (1, 3), (2, 70), (8, 3), (9, 3), (10, 3), (11, 3), (12, 3), (13, 3), (14, 3)], size := 15, bytes := 152, zero := .agg [.int .u8 0, .int .i64 0, .int .i64 0, .int .i64 0, .int .i64 0, .int .i64 0, .nils, .nils, .int .i64 0, .int .i64 0, .int .i64 0, .int .i64 0, .int .i64 0, .int .i64 0, .int .i64 0], cmp := false }
def Try.ti174 : TI := { k := .struct [(0, 5), (1, 3), (2, 70), (8, 3), (9, 3), (10, 3), (11, 3), (12, 3), (13, 3), (14, 3)], size := 15, bytes := 152, zero := .agg [.int .u8 0, .int .i64 0, .int .i64 0, .int .i64 0, .int .i64 0, .int .i64 0, .nils, .nils, .int .i64 0, .int .i64 0, .int .i64 0, .int .i64 0, .int .i64 0, .int .i64 0, .int .i64 0], cmp := false }
def Try.ti175 : TI := { k := .func, size := 1, bytes := 8, zero := .nilfunc, cmp := false }
def Try.ti176 : TI := { k := .func, size := 1, bytes := 8, zero := .nilfunc, cmp := false }
def Try.ti177 : TI := { k := .func, size := 1, bytes := 8, zero := .nilfunc, cmp := false }
def Try.ti178 : TI := { k := .func, size := 1, bytes := 8, zero := .nilfunc, cmp := false }
def Try.ti179 : TI := { k := .map 3 4, size := 1, bytes := 8, zero := .nilmap, cmp := false }
def Try.ti180 : TI := { k := .func, size := 1, bytes := 8, zero := .nilfunc, cmp := false }
def Try.ti181 : TI := { k := .func, size := 1, bytes := 8, zero := .nilfunc, cmp := false }
def Try.ti182 : TI := { k := .func, size := 1, bytes := 8, zero := .nilfunc, cmp := false }
def Try.ti183 : TI := { k := .func, size := 1, bytes := 8, zero := .nilfunc, cmp := false }
def Try.ti184 : TI := { k := .func, size := 1, bytes := 8, zero := .nilfunc, cmp := false }
def Try.ti185 : TI := { k := .func, size := 1, bytes := 8, zero := .nilfunc, cmp := false }
def Try.ti186 : TI := { k := .func, size := 1, bytes := 8, zero := .nilfunc, cmp := false }
def Try.ti187 : TI := { k := .func, size := 1, bytes := 8, zero := .nilfunc, cmp := false }
def Try.ti188 : TI := { k := .func, size := 1, bytes := 8, zero := .nilfunc, cmp := false }
def Try.ti189 : TI := { k := .func, size := 1, bytes := 8, zero := .nilfunc, cmp := false }
def Try.ti190 : TI := { k := .func, size := 1, bytes := 8, zero := .nilfunc, cmp := false }
def Try.ti191 : TI := { k := .iface, size := 1, bytes := 16, zero := .niliface, cmp := false }
def Try.ti192 : TI := { k := .iface, size := 1, bytes := 16, zero := .niliface, cmp := false }
def Try.ti193 : TI := { k := .func, size := 1, bytes := 8, zero := .nilfunc, cmp := false }
def Try.ti194 : TI := { k := .struct [(0, 70)], size := 6, bytes := 80, zero := .agg [.int .i64 0, .int .i64 0, .int .i64 0, .int .i64 0, .nils, .nils], cmp := false }
def Try.ti195 : TI := { k := .struct [(0, 70)], size := 6, bytes := 80, zero := .agg [.int .i64 0, .int .i64 0, .int .i64 0, .int .i64 0, .nils, .nils], cmp := false }
def Try.ti196 : TI := { k := .func, size := 1, bytes := 8, zero := .nilfunc, cmp := false }
def Try.ti197 : TI := { k := .struct [(0, 3)], size := 1, bytes := 8, zero := .agg [.int .i64 0], cmp := true }
def Try.ti198 : TI := { k := .struct [(0, 3)], size := 1, bytes := 8, zero := .agg [.int .i64 0], cmp := true }
def Try.ti199 : TI := { k := .struct [(0, 3)], size := 1, bytes := 8, zero := .agg [.int .i64 0], cmp := true }
def Try.ti200 : TI := { k := .func, size := 1, bytes := 8, zero := .nilfunc, cmp := false }
def Try.ti201 : TI := { k := .array 8 5, size := 8, bytes := 8, zero := .agg [.int .u8 0, .int .u8 0, .int .u8 0, .int .u8 0, .int .u8 0, .int .u8 0, .int .u8 0, .int .u8 0], cmp := true }
def Try.ti202 : TI := { k := .func, size := 1, bytes := 8, zero := .nilfunc, cmp := false }
def Try.ti203 : TI := { k := .func, size := 1, bytes := 8, zero := .nilfunc, cmp := false }
def Try.ti204 : TI := { k := .func, size := 1, bytes := 8, zero := .nilfunc, cmp := false }
def Try.ti205 : TI := { k := .slice 62, size := 1, bytes := 24, zero := .nils, cmp := false }
def Try.ti206 : TI := { k := .func, size := 1, bytes := 8, zero := .nilfunc, cmp := false }
def Try.ti207 : TI := { k := .func, size := 1, bytes := 8, zero := .nilfunc, cmp := false }
def Try.ti208 : TI := { k := .int .i64, size := 1, bytes := 8, zero := .int .i64 0, cmp := true }
def Try.ti210 : TI := { k := .func, size := 1, bytes := 8, zero := .nilfunc, cmp := false }
def Try.ti211 : TI := { k := .func, size := 1, bytes := 8, zero := .nilfunc, cmp := false }
def Try.ti212 : TI := { k := .func, size := 1, bytes := 8, zero := .nilfunc, cmp := false }
def Try.ti213 : TI := { k := .func, size := 1, bytes := 8, zero := .nilfunc, cmp := false }
def Try.ti215 : TI := { k := .func, size := 1, bytes := 8, zero := .nilfunc, cmp := false }
def Try.ti216 : TI := { k := .func, size := 1, bytes := 8, zero := .nilfunc, cmp := false }
def Try.ti217 : TI := { k := .int .u32, size := 1, bytes := 4, zero := .int .u32 0, cmp := true }
def Try.ti218 : TI := { k := .func, size := 1, bytes := 8, zero := .nilfunc, cmp := false }
def Try.ti219 : TI := { k := .func, size := 1, bytes := 8, zero := .nilfunc, cmp := false }
def Try.ti220 : TI := { k := .func, size := 1, bytes := 8, zero := .nilfunc, cmp := false }
def Try.ti221 : TI := { k := .func, size := 1, bytes := 8, zero := .nilfunc, cmp := false }
def Try.ti222 : TI := { k := .func, size := 1, bytes := 8, zero := .nilfunc, cmp := false }
def Try.ti223 : TI := { k := .func, size := 1, bytes := 8, zero := .nilfunc, cmp := false }
def Try.ti224 : TI := { k := .func, size := 1, bytes := 8, zero := .nilfunc, cmp := false }
def Try.ti225 : TI := { k := .func, size := 1, bytes := 8, zero := .nilfunc, cmp := false }
def Try.ti226 : TI := { k := .int .u64, size := 1, bytes := 8, zero := .int .u64 0, cmp := true }
def Try.ti227 : TI := { k := .func, size := 1, bytes := 8, zero := .nilfunc, cmp := false }
def Try.ti228 : TI := { k := .func, size := 1, bytes := 8, zero := .nilfunc, cmp := false }
def Try.ti229 : TI := { k := .func, size := 1, bytes := 8, zero := .nilfunc, cmp := false }
def Try.ti230 : TI := { k := .func, size := 1, bytes := 8, zero := .nilfunc, cmp := false }
def Try.ti231 : TI := { k := .func, size := 1, bytes := 8, zero := .nilfunc, cmp := false }
def Try.ti232 : TI := { k := .func, size := 1, bytes := 8, zero := .nilfunc, cmp := false }
def Try.ti233 : TI := { k := .func, size := 1, bytes := 8, zero := .nilfunc, cmp := false }
def Try.ti234 : TI := { k := .func, size := 1, bytes := 8, zero := .nilfunc, cmp := false }
def Try.ti235 : TI := { k := .func, size := 1, bytes := 8, zero := .nilfunc, cmp := false }
def Try.ti236 : TI := { k := .ptr, size := 1, bytes := 8, zero := .nilptr, cmp := false }
def Try.ti238 : TI := { k := .func, size := 1, bytes := 8, zero := .nilfunc, cmp := false }
def Try.ti239 : TI := { k := .func, size := 1, bytes := 8, zero := .nilfunc, cmp := false }
def Try.ti240 : TI := { k := .struct [(0, 17), (1, 17), (2, 17), (3, 9)], size := 4, bytes := 40, zero := .agg [.nilptr, .nilptr, .nilptr, .str []], cmp := false }
def Try.ti241 : TI := { k := .struct [(0, 17), (1, 17), (2, 17), (3, 9)], size := 4, bytes := 40, zero := .agg [.nilptr, .nilptr, .nilptr, .str []], cmp := false }
def Try.ti242 : TI := { k := .array 0 16, size := 0, bytes := 0, zero := .agg [], cmp := false }
def Try.ti245 : TI := { k := .int .u8, size := 1, bytes := 1, zero := .int .u8 0, cmp := true }
def Try.ti246 : TI := { k := .int .u8, size := 1, bytes := 1, zero := .int .u8 0, cmp := true }
def Try.ti247 : TI := { k := .func, size := 1, bytes := 8, zero := .nilfunc, cmp := false }
def Try.ti248 : TI := { k := .ptr, size := 1, bytes := 8, zero := .nilptr, cmp := false }
def Try.ti249 : TI := { k := .int .i32, size := 1, bytes := 4, zero := .int .i32 0, cmp := true }
def Try.ti250 : TI := { k := .int .i32, size := 1, bytes := 4, zero := .int .i32 0, cmp := true }
def Try.ti251 : TI := { k := .struct [(0, 12), (1, 12), (2, 217), (3, 245), (4, 5), (5, 5), (6, 246), (7, 247), (8, 248), (9, 249), (10, 250)], size := 11, bytes := 48, zero := .agg [.int .u64 0, .int .u64 0, .int .u32 0, .int .u8 0, .int .u8 0, .int .u8 0, .int .u8 0, .nilfunc, .nilptr, .int .i32 0, .int .i32 0], cmp := false }
def Try.ti252 : TI := { k := .struct [(0, 12), (1, 12), (2, 217), (3, 245), (4, 5), (5, 5), (6, 246), (7, 247), (8, 248), (9, 249), (10, 250)], size := 11, bytes := 48, zero := .agg [.int .u64 0, .int .u64 0, .int .u32 0, .int .u8 0, .int .u8 0, .int .u8 0, .int .u8 0, .nilfunc, .nilptr, .int .i32 0, .int .i32 0], cmp := false }
def Try.ti253 : TI := { k := .func, size := 1, bytes := 8, zero := .nilfunc, cmp := false }
noncomputable def Try.types_ : Tr TI := (.node 124 Try.ti124 (.node 64 Try.ti64 (.node 32 Try.ti32 (.node 17 Try.ti17 (.node 8 Try.ti8 (.node 4 Try.ti4 (.node 2 Try.ti2 (.node 1 Try.ti1 .nil .nil) (.node 3 Try.ti3 .nil .nil)) (.node 6 Try.ti6 (.node 5 Try.ti5 .nil .nil) (.node 7 Try.ti7 .nil .nil))) (.node 12 Try.ti12 (.node 10 Try.ti10 (.node 9 Try.ti9 .nil .nil) (.node 11 Try.ti11 .nil .nil)) (.node 16 Try.ti16 (.node 15 Try.ti15 .nil .nil) .nil))) (.node 25 Try.ti25 (.node 21 Try.ti21 (.node 19 Try.ti19 (.node 18 Try.ti18 .nil .nil) (.node 20 Try.ti20 .nil .nil)) (.node 23 Try.ti23 (.node 22 Try.ti22 .nil .nil) (.node 24 Try.ti24 .nil .nil))) (.node 29 Try.ti29 (.node 27 Try.ti27 (.node 26 Try.ti26 .nil .nil) (.node 28 Try.ti28 .nil .nil)) (.node 31 Try.ti31 (.node 30 Try.ti30 .nil .nil) .nil)))) (.node 49 Try.ti49 (.node 42 Try.ti42 (.node 36 Try.ti36 (.node 34 Try.ti34 (.node 33 Try.ti33 .nil .nil) (.node 35 Try.ti35 .nil .nil)) (.node 40 Try.ti40 (.node 38 Try.ti38 .nil .nil) (.node 41 Try.ti41 .nil .nil))) (.node 46 Try.ti46 (.node 44 Try.ti44 (.node 43 Try.ti43 .nil .nil) (.node 45 Try.ti45 .nil .nil)) (.node 48 Try.ti48 (.node 47 Try.ti47 .nil .nil) .nil))) (.node 57 Try.ti57 (.node 53 Try.ti53 (.node 51 Try.ti51 (.node 50 Try.ti50 .nil .nil) (.node 52 Try.ti52 .nil .nil)) (.node 55 Try.ti55 (.node 54 Try.ti54 .nil .nil) (.node 56 Try.ti56 .nil .nil))) (.node 61 Try.ti61 (.node 59 Try.ti59 (.node 58 Try.ti58 .nil .nil) (.node 60 Try.ti60 .nil .nil)) (.node 63 Try.ti63 (.node 62 Try.ti62 .nil .nil) .nil))))) (.node 94 Try.ti94 (.node 79 Try.ti79 (.node 72 Try.ti72 (.node 68 Try.ti68 (.node 66 Try.ti66 (.node 65 Try.ti65 .nil .nil) (.node 67 Try.ti67 .nil .nil)) (.node 70 Try.ti70 (.node 69 Try.ti69 .nil .nil) (.node 71 Try.ti71 .nil .nil))) (.node 76 Try.ti76 (.node 74 Try.ti74 (.node 73 Try.ti73 .nil .nil) (.node 75 Try.ti75 .nil .nil)) (.node 78 Try.ti78 (.node 77 Try.ti77 .nil .nil) .nil))) (.node 87 Try.ti87 (.node 83 Try.ti83 (.node 81 Try.ti81 (.node 80 Try.ti80 .nil .nil) (.node 82 Try.ti82 .nil .nil)) (.node 85 Try.ti85 (.node 84 Try.ti84 .nil .nil) (.node 86 Try.ti86 .nil .nil))) (.node 91 Try.ti91 (.node 89 Try.ti89 (.node 88 Try.ti88 .nil .nil) (.node 90 Try.ti90 .nil .nil)) (.node 93 Try.ti93 (.node 92 Try.ti92 .nil .nil) .nil)))) (.node 109 Try.ti109 (.node 102 Try.ti102 (.node 98 Try.ti98 (.node 96 Try.ti96 (.node 95 Try.ti95 .nil .nil) (.node 97 Try.ti97 .nil .nil)) (.node 100 Try.ti100 (.node 99 Try.ti99 .nil .nil) (.node 101 Try.ti101 .nil .nil))) (.node 106 Try.ti106 (.node 104 Try.ti104 (.node 103 Try.ti103 .nil .nil) (.node 105 Try.ti105 .nil .nil)) (.node 108 Try.ti108 (.node 107 Try.ti107 .nil .nil) .nil))) (.node 117 Try.ti117 (.node 113 Try.ti113 (.node 111 Try.ti111 (.node 110 Try.ti110 .nil .nil) (.node 112 Try.ti112 .nil .nil)) (.node 115 Try.ti115 (.node 114 Try.ti114 .nil .nil) (.node 116 Try.ti116 .nil .nil))) (.node 121 Try.ti121 (.node 119 Try.ti119 (.node 118 Try.ti118 .nil .nil) (.node 120 Try.ti120 .nil .nil)) (.node 123 Try.ti123 (.node 122 Try.ti122 .nil .nil) .nil)))))) (.node 190 Try.ti190 (.node 158 Try.ti158 (.node 142 Try.ti142 (.node 132 Try.ti132 (.node 128 Try.ti128 (.node 126 Try.ti126 (.node 125 Try.ti125 .nil .nil) (.node 127 Try.ti127 .nil .nil)) (.node 130 Try.ti130 (.node 129 Try.ti129 .nil .nil) (.node 131 Try.ti131 .nil .nil))) (.node 139 Try.ti139 (.node 137 Try.ti137 (.node 135 Try.ti135 .nil .nil) (.node 138 Try.ti138 .nil .nil)) (.node 141 Try.ti141 (.node 140 Try.ti140 .nil .nil) .nil))) (.node 150 Try.ti150 (.node 146 Try.ti146 (.node 144 Try.ti144 (.node 143 Try.ti143 .nil .nil) (.node 145 Try.ti145 .nil .nil)) (.node 148 Try.ti148 (.node 147 Try.ti147 .nil .nil) (.node 149 Try.ti149 .nil .nil))) (.node 155 Try.ti155 (.node 152 Try.ti152 (.node 151 Try.ti151 .nil .nil) (.node 153 Try.ti153 .nil .nil)) (.node 157 Try.ti157 (.node 156 Try.ti156 .nil .nil) .nil)))) (.node 175 Try.ti175 (.node 167 Try.ti167 (.node 163 Try.ti163 (.node 161 Try.ti161 (.node 160 Try.ti160 .nil .nil) (.node 162 Try.ti162 .nil .nil)) (.node 165 Try.ti165 (.node 164 Try.ti164 .nil .nil) (.node 166 Try.ti166 .nil .nil))) (.node 172 Try.ti172 (.node 170 Try.ti170 (.node 169 Try.ti169 .nil .nil) (.node 171 Try.ti171 .nil .nil)) (.node 174 Try.ti174 (.node 173 Try.ti173 .nil .nil) .nil))) (.node 183 Try.ti183 (.node 179 Try.ti179 (.node 177 Try.ti177 (.node 176 Try.ti176 .nil .nil) (.node 178 Try.ti178 .nil .nil)) (.node 181 Try.ti181 (.node 180 Try.ti180 .nil .nil) (.node 182 Try.ti182 .nil .nil))) (.node 187 Try.ti187 (.node 185 Try.ti185 (.node 184 Try.ti184 .nil .nil) (.node 186 Try.ti186 .nil .nil)) (.node 189 Try.ti189 (.node 188 Try.ti188 .nil .nil) .nil))))) (.node 222 Try.ti222 (.node 205 Try.ti205 (.node 198 Try.ti198 (.node 194 Try.ti194 (.node 192 Try.ti192 (.node 191 Try.ti191 .nil .nil) (.node 193 Try.ti193 .nil .nil)) (.node 196 Try.ti196 (.node 195 Try.ti195 .nil .nil) (.node 197 Try.ti197 .nil .nil))) (.node 202 Try.ti202 (.node 200 Try.ti200 (.node 199 Try.ti199 .nil .nil) (.node 201 Try.ti201 .nil .nil)) (.node 204 Try.ti204 (.node 203 Try.ti203 .nil .nil) .nil))) (.node 215 Try.ti215 (.node 210 Try.ti210 (.node 207 Try.ti207 (.node 206 Try.ti206 .nil .nil) (.node 208 Try.ti208 .nil .nil)) (.node 212 Try.ti212 (.node 211 Try.ti211 .nil .nil) (.node 213 Try.ti213 .nil .nil))) (.node 219 Try.ti219 (.node 217 Try.ti217 (.node 216 Try.ti216 .nil .nil) (.node 218 Try.ti218 .nil .nil)) (.node 221 Try.ti221 (.node 220 Try.ti220 .nil .nil) .nil)))) (.node 238 Try.ti238 (.node 230 Try.ti230 (.node 226 Try.ti226 (.node 224 Try.ti224 (.node 223 Try.ti223 .nil .nil) (.node 225 Try.ti225 .nil .nil)) (.node 228 Try.ti228 (.node 227 Try.ti227 .nil .nil) (.node 229 Try.ti229 .nil .nil))) (.node 234 Try.ti234 (.node 232 Try.ti232 (.node 231 Try.ti231 .nil .nil) (.node 233 Try.ti233 .nil .nil)) (.node 236 Try.ti236 (.node 235 Try.ti235 .nil .nil) .nil))) (.node 247 Try.ti247 (.node 242 Try.ti242 (.node 240 Try.ti240 (.node 239 Try.ti239 .nil .nil) (.node 241 Try.ti241 .nil .nil)) (.node 246 Try.ti246 (.node 245 Try.ti245 .nil .nil) .nil)) (.node 251 Try.ti251 (.node 249 Try.ti249 (.node 248 Try.ti248 .nil .nil) (.node 250 Try.ti250 .nil .nil)) (.node 253 Try.ti253 (.node 252 Try.ti252 .nil .nil) .nil)))))))
noncomputable def Try.funcs_ : Tr Func := (.node 77 Try.f77 (.node 41 Try.f41 (.node 28 Try.f28 (.node 11 Try.f11 (.node 8 Try.f8 (.node 4 Try.f4 (.node 3 Try.f3 .nil .nil) (.node 5 Try.f5 .nil .nil)) (.node 10 Try.f10 (.node 9 Try.f9 .nil .nil) .nil)) (.node 15 Try.f15 (.node 13 Try.f13 (.node 12 Try.f12 .nil .nil) (.node 14 Try.f14 .nil .nil)) (.node 17 Try.f17 (.node 16 Try.f16 .nil .nil) .nil))) (.node 35 Try.f35 (.node 32 Try.f32 (.node 30 Try.f30 (.node 29 Try.f29 .nil .nil) (.node 31 Try.f31 .nil .nil)) (.node 34 Try.f34 (.node 33 Try.f33 .nil .nil) .nil)) (.node 38 Try.f38 (.node 37 Try.f37 (.node 36 Try.f36 .nil .nil) .nil) (.node 40 Try.f40 (.node 39 Try.f39 .nil .nil) .nil)))) (.node 64 Try.f64 (.node 58 Try.f58 (.node 55 Try.f55 (.node 53 Try.f53 (.node 42 Try.f42 .nil .nil) (.node 54 Try.f54 .nil .nil)) (.node 57 Try.f57 (.node 56 Try.f56 .nil .nil) .nil)) (.node 61 Try.f61 (.node 60 Try.f60 (.node 59 Try.f59 .nil .nil) .nil) (.node 63 Try.f63 (.node 62 Try.f62 .nil .nil) .nil))) (.node 71 Try.f71 (.node 68 Try.f68 (.node 66 Try.f66 (.node 65 Try.f65 .nil .nil) (.node 67 Try.f67 .nil .nil)) (.node 70 Try.f70 (.node 69 Try.f69 .nil .nil) .nil)) (.node 74 Try.f74 (.node 73 Try.f73 (.node 72 Try.f72 .nil .nil) .nil) (.node 76 Try.f76 (.node 75 Try.f75 .nil .nil) .nil))))) (.node 149 Try.f149 (.node 106 Try.f106 (.node 84 Try.f84 (.node 81 Try.f81 (.node 79 Try.f79 (.node 78 Try.f78 .nil .nil) (.node 80 Try.f80 .nil .nil)) (.node 83 Try.f83 (.node 82 Try.f82 .nil .nil) .nil)) (.node 103 Try.f103 (.node 98 Try.f98 (.node 85 Try.f85 .nil .nil) (.node 102 Try.f102 .nil .nil)) (.node 105 Try.f105 (.node 104 Try.f104 .nil .nil) .nil))) (.node 127 Try.f127 (.node 124 Try.f124 (.node 108 Try.f108 (.node 107 Try.f107 .nil .nil) (.node 109 Try.f109 .nil .nil)) (.node 126 Try.f126 (.node 125 Try.f125 .nil .nil) .nil)) (.node 130 Try.f130 (.node 129 Try.f129 (.node 128 Try.f128 .nil .nil) .nil) (.node 148 Try.f148 (.node 131 Try.f131 .nil .nil) .nil)))) (.node 171 Try.f171 (.node 165 Try.f165 (.node 153 Try.f153 (.node 151 Try.f151 (.node 150 Try.f150 .nil .nil) (.node 152 Try.f152 .nil .nil)) (.node 155 Try.f155 (.node 154 Try.f154 .nil .nil) .nil)) (.node 168 Try.f168 (.node 167 Try.f167 (.node 166 Try.f166 .nil .nil) .nil) (.node 170 Try.f170 (.node 169 Try.f169 .nil .nil) .nil))) (.node 178 Try.f178 (.node 175 Try.f175 (.node 173 Try.f173 (.node 172 Try.f172 .nil .nil) (.node 174 Try.f174 .nil .nil)) (.node 177 Try.f177 (.node 176 Try.f176 .nil .nil) .nil)) (.node 198 Try.f198 (.node 197 Try.f197 (.node 181 Try.f181 .nil .nil) .nil) (.node 200 Try.f200 (.node 199 Try.f199 .nil .nil) .nil))))))
noncomputable def Try.pure_ : Tr Unit := (.node 105 () (.node 36 () (.node 13 () (.node 9 () (.node 5 () (.node 4 () (.node 3 () .nil .nil) .nil) (.node 8 () .nil .nil)) (.node 11 () (.node 10 () .nil .nil) (.node 12 () .nil .nil))) (.node 17 () (.node 15 () (.node 14 () .nil .nil) (.node 16 () .nil .nil)) (.node 33 () (.node 32 () .nil .nil) (.node 34 () .nil .nil)))) (.node 68 () (.node 42 () (.node 40 () (.node 37 () .nil .nil) (.node 41 () .nil .nil)) (.node 59 () (.node 58 () .nil .nil) (.node 66 () .nil .nil))) (.node 77 () (.node 71 () (.node 70 () .nil .nil) (.node 75 () .nil .nil)) (.node 98 () (.node 79 () .nil .nil) (.node 103 () .nil .nil))))) (.node 153 () (.node 128 () (.node 109 () (.node 107 () (.node 106 () .nil .nil) (.node 108 () .nil .nil)) (.node 125 () (.node 124 () .nil .nil) (.node 126 () .nil .nil))) (.node 148 () (.node 130 () (.node 129 () .nil .nil) (.node 131 () .nil .nil)) (.node 151 () (.node 149 () .nil .nil) (.node 152 () .nil .nil)))) (.node 176 () (.node 166 () (.node 155 () (.node 154 () .nil .nil) (.node 165 () .nil .nil)) (.node 174 () (.node 170 () .nil .nil) (.node 175 () .nil .nil))) (.node 197 () (.node 178 () (.node 177 () .nil .nil) (.node 181 () .nil .nil)) (.node 199 () (.node 198 () .nil .nil) (.node 200 () .nil .nil))))))
theorem Try.types_ok : Try.types_.all (typeB Try.prog) = true := by kernel_rfl
theorem Try.funcs_ok : Try.funcs_.AllP fun f fn => Try.prog.funcs[f]? = some fn ∧ fn.body.isSome = true ∧ fn.name ≠ "runtime.NumGoroutine" := by
  exact ⟨⟨Try.func77, rfl, of_decide_eq_true (by kernel_rfl)⟩, ⟨⟨Try.func41, rfl, of_decide_eq_true (by kernel_rfl)⟩, ⟨⟨Try.func28, rfl, of_decide_eq_true (by kernel_rfl)⟩, ⟨⟨Try.func11, rfl, of_decide_eq_true (by kernel_rfl)⟩, ⟨⟨Try.func8, rfl, of_decide_eq_true (by kernel_rfl)⟩, ⟨⟨Try.func4, rfl, of_decide_eq_true (by kernel_rfl)⟩, ⟨⟨Try.func3, rfl, of_decide_eq_true (by kernel_rfl)⟩, trivial, trivial⟩, ⟨⟨Try.func5, rfl, of_decide_eq_true (by kernel_rfl)⟩, trivial, trivial⟩⟩, ⟨⟨Try.func10, rfl, of_decide_eq_true (by kernel_rfl)⟩, ⟨⟨Try.func9, rfl, of_decide_eq_true (by kernel_rfl)⟩, trivial, trivial⟩, trivial⟩⟩, ⟨⟨Try.func15, rfl, of_decide_eq_true (by kernel_rfl)⟩, ⟨⟨Try.func13, rfl, of_decide_eq_true (by kernel_rfl)⟩, ⟨⟨Try.func12, rfl, of_decide_eq_true (by kernel_rfl)⟩, trivial, trivial⟩, ⟨⟨Try.func14, rfl, of_decide_eq_true (by kernel_rfl)⟩, trivial, trivial⟩⟩, ⟨⟨Try.func17, rfl, of_decide_eq_true (by kernel_rfl)⟩, ⟨⟨Try.func16, rfl, of_decide_eq_true (by kernel_rfl)⟩, trivial, trivial⟩, trivial⟩⟩⟩, ⟨⟨Try.func35, rfl, of_decide_eq_true (by kernel_rfl)⟩, ⟨⟨Try.func32, rfl, of_decide_eq_true (by kernel_rfl)⟩, ⟨⟨Try.func30, rfl, of_decide_eq_true (by kernel_rfl)⟩, ⟨⟨Try.func29, rfl, of_decide_eq_true (by kernel_rfl)⟩, trivial, trivial⟩, ⟨⟨Try.func31, rfl, of_decide_eq_true (by kernel_rfl)⟩, trivial, trivial⟩⟩, ⟨⟨Try.func34, rfl, of_decide_eq_true (by kernel_rfl)⟩, ⟨⟨Try.func33, rfl, of_decide_eq_true (by kernel_rfl)⟩, trivial, trivial⟩, trivial⟩⟩, ⟨⟨Try.func38, rfl, of_decide_eq_true (by kernel_rfl)⟩, ⟨⟨Try.func37, rfl, of_decide_eq_true (by kernel_rfl)⟩, ⟨⟨Try.func36, rfl, of_decide_eq_true (by kernel_rfl)⟩, trivial, trivial⟩, trivial⟩, ⟨⟨Try.func40, rfl, of_decide_eq_true (by kernel_rfl)⟩, ⟨⟨Try.func39, rfl, of_decide_eq_true (by kernel_rfl)⟩, trivial, trivial⟩, trivial⟩⟩⟩⟩, ⟨⟨Try.func64, rfl, of_decide_eq_true (by kernel_rfl)⟩, ⟨⟨Try.func58, rfl, of_decide_eq_true (by kernel_rfl)⟩, ⟨⟨Try.func55, rfl, of_decide_eq_true (by kernel_rfl)⟩, ⟨⟨Try.func53, rfl, of_decide_eq_true (by kernel_rfl)⟩, ⟨⟨Try.func42, rfl, of_decide_eq_true (by kernel_rfl)⟩, trivial, trivial⟩, ⟨⟨Try.func54, rfl, of_decide_eq_true (by kernel_rfl)⟩, trivial, trivial⟩⟩, ⟨⟨Try.func57, rfl, of_decide_eq_true (by kernel_rfl)⟩, ⟨⟨Try.func56, rfl, of_decide_eq_true (by kernel_rfl)⟩, trivial, trivial⟩, trivial⟩⟩, ⟨⟨Try.func61, rfl, of_decide_eq_true (by kernel_rfl)⟩, ⟨⟨Try.func60, rfl, of_decide_eq_true (by kernel_rfl)⟩, ⟨⟨Try.func59, rfl, of_decide_eq_true (by kernel_rfl)⟩, trivial, trivial⟩, trivial⟩, ⟨⟨Try.func63, rfl, of_decide_eq_true (by kernel_rfl)⟩, ⟨⟨Try.func62, rfl, of_decide_eq_true (by kernel_rfl)⟩, trivial, trivial⟩, trivial⟩⟩⟩, ⟨⟨Try.func71, rfl, of_decide_eq_true (by kernel_rfl)⟩, ⟨⟨Try.func68, rfl, of_decide_eq_true (by kernel_rfl)⟩, ⟨⟨Try.func66, rfl, of_decide_eq_true (by kernel_rfl)⟩, ⟨⟨Try.func65, rfl, of_decide_eq_true (by kernel_rfl)⟩, trivial, trivial⟩, ⟨⟨Try.func67, rfl, of_decide_eq_true (by kernel_rfl)⟩, trivial, trivial⟩⟩, ⟨⟨Try.func70, rfl, of_decide_eq_true (by kernel_rfl)⟩, ⟨⟨Try.func69, rfl, of_decide_eq_true (by kernel_rfl)⟩, trivial, trivial⟩, trivial⟩⟩, ⟨⟨Try.func74, rfl, of_decide_eq_true (by kernel_rfl)⟩, ⟨⟨Try.func73, rfl, of_decide_eq_true (by kernel_rfl)⟩, ⟨⟨Try.func72, rfl, of_decide_eq_true (by kernel_rfl)⟩, trivial, trivial⟩, trivial⟩, ⟨⟨Try.func76, rfl, of_decide_eq_true (by kernel_rfl)⟩, ⟨⟨Try.func75, rfl, of_decide_eq_true (by kernel_rfl)⟩, trivial, trivial⟩, trivial⟩⟩⟩⟩⟩, ⟨⟨Try.func149, rfl, of_decide_eq_true (by kernel_rfl)⟩, ⟨⟨Try.func106, rfl, of_decide_eq_true (by kernel_rfl)⟩, ⟨⟨Try.func84, rfl, of_decide_eq_true (by kernel_rfl)⟩, ⟨⟨Try.func81, rfl, of_decide_eq_true (by kernel_rfl)⟩, ⟨⟨Try.func79, rfl, of_decide_eq_true (by kernel_rfl)⟩, ⟨⟨Try.func78, rfl, of_decide_eq_true (by kernel_rfl)⟩, trivial, trivial⟩, ⟨⟨Try.func80, rfl, of_decide_eq_true (by kernel_rfl)⟩, trivial, trivial⟩⟩, ⟨⟨Try.func83, rfl, of_decide_eq_true (by kernel_rfl)⟩, ⟨⟨Try.func82, rfl, of_decide_eq_true (by kernel_rfl)⟩, trivial, trivial⟩, trivial⟩⟩, ⟨⟨Try.func103, rfl, of_decide_eq_true (by kernel_rfl)⟩, ⟨⟨Try.func98, rfl, of_decide_eq_true (by kernel_rfl)⟩, ⟨⟨Try.func85, rfl, of_decide_eq_true (by kernel_rfl)⟩, trivial, trivial⟩, ⟨⟨Try.func102, rfl, of_decide_eq_true (by kernel_rfl)⟩, trivial, trivial⟩⟩, ⟨⟨Try.func105, rfl, of_decide_eq_true (by kernel_rfl)⟩, ⟨⟨Try.func104, rfl, of_decide_eq_true (by kernel_rfl)⟩, trivial, trivial⟩, trivial⟩⟩⟩, ⟨⟨Try.func127, rfl, of_decide_eq_true (by kernel_rfl)⟩, ⟨⟨Try.func124, rfl, of_decide_eq_true (by kernel_rfl)⟩, ⟨⟨Try.func108, rfl, of_decide_eq_true (by kernel_rfl)⟩, ⟨⟨Try.func107, rfl, of_decide_eq_true (by kernel_rfl)⟩, trivial, trivial⟩, ⟨⟨Try.func109, rfl, of_decide_eq_true (by kernel_rfl)⟩, trivial, trivial⟩⟩, ⟨⟨Try.func126, rfl, of_decide_eq_true (by kernel_rfl)⟩, ⟨⟨Try.func125, rfl, of_decide_eq_true (by kernel_rfl)⟩, trivial, trivial⟩, trivial⟩⟩, ⟨⟨Try.func130, rfl, of_decide_eq_true (by kernel_rfl)⟩, ⟨⟨Try.func129, rfl, of_decide_eq_true (by kernel_rfl)⟩, ⟨⟨Try.func128, rfl, of_decide_eq_true (by kernel_rfl)⟩, trivial, trivial⟩, trivial⟩, ⟨⟨Try.func148, rfl, of_decide_eq_true (by kernel_rfl)⟩, ⟨⟨Try.func131, rfl, of_decide_eq_true (by kernel_rfl)⟩, trivial, trivial⟩, trivial⟩⟩⟩⟩, ⟨⟨Try.func171, rfl, of_decide_eq_true (by kernel_rfl)⟩, ⟨⟨Try.func165, rfl, of_decide_eq_true (by kernel_rfl)⟩, ⟨⟨Try.func153, rfl, of_decide_eq_true (by kernel_rfl)⟩, ⟨⟨Try.func151, rfl, of_decide_eq_true (by kernel_rfl)⟩, ⟨⟨Try.func150, rfl, of_decide_eq_true (by kernel_rfl)⟩, trivial, trivial⟩, ⟨⟨Try.func152, rfl, of_decide_eq_true (by kernel_rfl)⟩, trivial, trivial⟩⟩, ⟨⟨Try.func155, rfl, of_decide_eq_true (by kernel_rfl)⟩, ⟨⟨Try.func154, rfl, of_decide_eq_true (by kernel_rfl)⟩, trivial, trivial⟩, trivial⟩⟩, ⟨⟨Try.func168, rfl, of_decide_eq_true (by kernel_rfl)⟩, ⟨⟨Try.func167, rfl, of_decide_eq_true (by kernel_rfl)⟩, ⟨⟨Try.func166, rfl, of_decide_eq_true (by kernel_rfl)⟩, trivial, trivial⟩, trivial⟩, ⟨⟨Try.func170, rfl, of_decide_eq_true (by kernel_rfl)⟩, ⟨⟨Try.func169, rfl, of_decide_eq_true (by kernel_rfl)⟩, trivial, trivial⟩, trivial⟩⟩⟩, ⟨⟨Try.func178, rfl, of_decide_eq_true (by kernel_rfl)⟩, ⟨⟨Try.func175, rfl, of_decide_eq_true (by kernel_rfl)⟩, ⟨⟨Try.func173, rfl, of_decide_eq_true (by kernel_rfl)⟩, ⟨⟨Try.func172, rfl, of_decide_eq_true (by kernel_rfl)⟩, trivial, trivial⟩, ⟨⟨Try.func174, rfl, of_decide_eq_true (by kernel_rfl)⟩, trivial, trivial⟩⟩, ⟨⟨Try.func177, rfl, of_decide_eq_true (by kernel_rfl)⟩, ⟨⟨Try.func176, rfl, of_decide_eq_true (by kernel_rfl)⟩, trivial, trivial⟩, trivial⟩⟩, ⟨⟨Try.func198, rfl, of_decide_eq_true (by kernel_rfl)⟩, ⟨⟨Try.func197, rfl, of_decide_eq_true (by kernel_rfl)⟩, ⟨⟨Try.func181, rfl, of_decide_eq_true (by kernel_rfl)⟩, trivial, trivial⟩, trivial⟩, ⟨⟨Try.func200, rfl, of_decide_eq_true (by kernel_rfl)⟩, ⟨⟨Try.func199, rfl, of_decide_eq_true (by kernel_rfl)⟩, trivial, trivial⟩, trivial⟩⟩⟩⟩⟩⟩
theorem Try.mixed : Try.prog.follows .mixedOrders = true := by kernel_rfl
end Go.Proofs.Ytanpcjopgcpooaa
