/- The engine's tables for this seat's program: written by a program of ours. -/
import Derived.Test.YtoagnbpmoihojaaEg
import Derived.Test.YtoagnbpmoihojaaProg
set_option maxRecDepth 100000
namespace Go.Proofs.Ytoagnbpmoihojaa
open Go.Sx

def Try.ti1 : TI := { k := .func, size := 1, bytes := 8, zero := .nilfunc, cmp := false }
def Try.ti2 : TI := { k := .int .i64, size := 1, bytes := 8, zero := .int .i64 0, cmp := true }
def Try.ti3 : TI := { k := .int .i64, size := 1, bytes := 8, zero := .int .i64 0, cmp := true }
def Try.ti4 : TI := { k := .bool, size := 1, bytes := 1, zero := .bool false, cmp := true }
def Try.ti5 : TI := { k := .int .u8, size := 1, bytes := 1, zero := .int .u8 0, cmp := true }
def Try.ti6 : TI := { k := .int .u8, size := 1, bytes := 1, zero := .int .u8 0, cmp := true }
def Try.ti7 : TI := { k := .struct [(0, 2), (1, 3), (2, 4), (3, 6)], size := 4, bytes := 24, zero := .agg [.int .i64 0, .int .i64 0, .bool false, .int .u8 0], cmp := true }
def Try.ti8 : TI := { k := .struct [(0, 2), (1, 3), (2, 4), (3, 6)], size := 4, bytes := 24, zero := .agg [.int .i64 0, .int .i64 0, .bool false, .int .u8 0], cmp := true }
def Try.ti9 : TI := { k := .string, size := 1, bytes := 16, zero := .str [], cmp := true }
def Try.ti10 : TI := { k := .string, size := 1, bytes := 16, zero := .str [], cmp := true }
def Try.ti11 : TI := { k := .string, size := 1, bytes := 16, zero := .str [], cmp := true }
def Try.ti12 : TI := { k := .int .u64, size := 1, bytes := 8, zero := .int .u64 0, cmp := true }
def Try.ti15 : TI := { k := .ptr, size := 1, bytes := 8, zero := .nilptr, cmp := false }
def Try.ti16 : TI := { k := .ptr, size := 1, bytes := 8, zero := .nilptr, cmp := false }
def Try.ti17 : TI := { k := .ptr, size := 1, bytes := 8, zero := .nilptr, cmp := false }
def Try.ti18 : TI := { k := .struct [(0, 17)], size := 1, bytes := 8, zero := .agg [.nilptr], cmp := false }
def Try.ti19 : TI := { k := .struct [(0, 17)], size := 1, bytes := 8, zero := .agg [.nilptr], cmp := false }
def Try.ti20 : TI := { k := .iface, size := 1, bytes := 16, zero := .niliface, cmp := false }
def Try.ti21 : TI := { k := .int .i32, size := 1, bytes := 4, zero := .int .i32 0, cmp := true }
def Try.ti22 : TI := { k := .struct [(0, 3), (1, 3), (2, 3)], size := 3, bytes := 24, zero := .agg [.int .i64 0, .int .i64 0, .int .i64 0], cmp := true }
def Try.ti23 : TI := { k := .struct [(0, 3), (1, 3), (2, 3)], size := 3, bytes := 24, zero := .agg [.int .i64 0, .int .i64 0, .int .i64 0], cmp := true }
def Try.ti24 : TI := { k := .struct [(0, 23), (3, 3), (4, 3), (5, 3), (6, 3), (7, 3), (8, 3), (9, 3), (10, 3)], size := 11, bytes := 88, zero := .agg [.int .i64 0, .int .i64 0, .int .i64 0, .int .i64 0, .int .i64 0, .int .i64 0, .int .i64 0, .int .i64 0, .int .i64 0, .int .i64 0, .int .i64 0], cmp := true }
def Try.ti25 : TI := { k := .struct [(0, 23), (3, 3), (4, 3), (5, 3), (6, 3), (7, 3), (8, 3), (9, 3), (10, 3)], size := 11, bytes := 88, zero := .agg [.int .i64 0, .int .i64 0, .int .i64 0, .int .i64 0, .int .i64 0, .int .i64 0, .int .i64 0, .int .i64 0, .int .i64 0, .int .i64 0, .int .i64 0], cmp := true }
def Try.ti26 : TI := { k := .int .u16, size := 1, bytes := 2, zero := .int .u16 0, cmp := true }
def Try.ti27 : TI := { k := .slice 53, size := 1, bytes := 24, zero := .nils, cmp := false }
def Try.ti28 : TI := { k := .func, size := 1, bytes := 8, zero := .nilfunc, cmp := false }
def Try.ti29 : TI := { k := .int .i64, size := 1, bytes := 8, zero := .int .i64 0, cmp := true }
def Try.ti30 : TI := { k := .func, size := 1, bytes := 8, zero := .nilfunc, cmp := false }
def Try.ti32 : TI := { k := .func, size := 1, bytes := 8, zero := .nilfunc, cmp := false }
def Try.ti33 : TI := { k := .func, size := 1, bytes := 8, zero := .nilfunc, cmp := false }
def Try.ti34 : TI := { k := .func, size := 1, bytes := 8, zero := .nilfunc, cmp := false }
def Try.ti35 : TI := { k := .func, size := 1, bytes := 8, zero := .nilfunc, cmp := false }
def Try.ti36 : TI := { k := .slice 3, size := 1, bytes := 24, zero := .nils, cmp := false }
def Try.ti38 : TI := { k := .func, size := 1, bytes := 8, zero := .nilfunc, cmp := false }
def Try.ti39 : TI := { k := .func, size := 1, bytes := 8, zero := .nilfunc, cmp := false }
def Try.ti40 : TI := { k := .func, size := 1, bytes := 8, zero := .nilfunc, cmp := false }
def Try.ti41 : TI := { k := .func, size := 1, bytes := 8, zero := .nilfunc, cmp := false }
def Try.ti42 : TI := { k := .func, size := 1, bytes := 8, zero := .nilfunc, cmp := false }
def Try.ti43 : TI := { k := .func, size := 1, bytes := 8, zero := .nilfunc, cmp := false }
def Try.ti44 : TI := { k := .func, size := 1, bytes := 8, zero := .nilfunc, cmp := false }
def Try.ti45 : TI := { k := .func, size := 1, bytes := 8, zero := .nilfunc, cmp := false }
def Try.ti46 : TI := { k := .func, size := 1, bytes := 8, zero := .nilfunc, cmp := false }
def Try.ti47 : TI := { k := .slice 79, size := 1, bytes := 24, zero := .nils, cmp := false }
def Try.ti48 : TI := { k := .struct [(0, 3), (1, 3), (2, 3), (3, 3), (4, 47)], size := 5, bytes := 56, zero := .agg [.int .i64 0, .int .i64 0, .int .i64 0, .int .i64 0, .nils], cmp := false }
def Try.ti49 : TI := { k := .struct [(0, 3), (1, 3), (2, 3), (3, 3), (4, 47)], size := 5, bytes := 56, zero := .agg [.int .i64 0, .int .i64 0, .int .i64 0, .int .i64 0, .nils], cmp := false }
def Try.ti50 : TI := { k := .slice 67, size := 1, bytes := 24, zero := .nils, cmp := false }
def Try.ti51 : TI := { k := .slice 93, size := 1, bytes := 24, zero := .nils, cmp := false }
def Try.ti52 : TI := { k := .struct [(0, 3), (1, 4), (2, 4), (3, 4), (4, 49), (9, 50), (10, 36), (11, 3), (12, 51), (13, 51)], size := 14, bytes := 176, zero := .agg [.int .i64 0, .bool false, .bool false, .bool false, .int .i64 0, .int .i64 0, .int .i64 0, .int .i64 0, .nils, .nils, .nils, .int .i64 0, .nils, .nils], cmp := false }
def Try.ti53 : TI := { k := .struct [(0, 3), (1, 4), (2, 4), (3, 4), (4, 49), (9, 50), (10, 36), (11, 3), (12, 51), (13, 51)], size := 14, bytes := 176, zero := .agg [.int .i64 0, .bool false, .bool false, .bool false, .int .i64 0, .int .i64 0, .int .i64 0, .int .i64 0, .nils, .nils, .nils, .int .i64 0, .nils, .nils], cmp := false }
def Try.ti54 : TI := { k := .func, size := 1, bytes := 8, zero := .nilfunc, cmp := false }
def Try.ti55 : TI := { k := .func, size := 1, bytes := 8, zero := .nilfunc, cmp := false }
def Try.ti56 : TI := { k := .func, size := 1, bytes := 8, zero := .nilfunc, cmp := false }
def Try.ti57 : TI := { k := .func, size := 1, bytes := 8, zero := .nilfunc, cmp := false }
def Try.ti58 : TI := { k := .func, size := 1, bytes := 8, zero := .nilfunc, cmp := false }
def Try.ti59 : TI := { k := .func, size := 1, bytes := 8, zero := .nilfunc, cmp := false }
def Try.ti60 : TI := { k := .func, size := 1, bytes := 8, zero := .nilfunc, cmp := false }
def Try.ti61 : TI := { k := .func, size := 1, bytes := 8, zero := .nilfunc, cmp := false }
def Try.ti62 : TI := { k := .func, size := 1, bytes := 8, zero := .nilfunc, cmp := false }
def Try.ti63 : TI := { k := .func, size := 1, bytes := 8, zero := .nilfunc, cmp := false }
def Try.ti64 : TI := { k := .struct [(0, 3), (1, 3), (2, 3)], size := 3, bytes := 24, zero := .agg [.int .i64 0, .int .i64 0, .int .i64 0], cmp := true }
def Try.ti65 : TI := { k := .struct [(0, 3), (1, 3), (2, 3)], size := 3, bytes := 24, zero := .agg [.int .i64 0, .int .i64 0, .int .i64 0], cmp := true }
def Try.ti66 : TI := { k := .struct [(0, 3), (1, 3), (2, 65), (5, 4), (6, 4), (7, 4), (8, 3)], size := 9, bytes := 56, zero := .agg [.int .i64 0, .int .i64 0, .int .i64 0, .int .i64 0, .int .i64 0, .bool false, .bool false, .bool false, .int .i64 0], cmp := true }
def Try.ti67 : TI := { k := .struct [(0, 3), (1, 3), (2, 65), (5, 4), (6, 4), (7, 4), (8, 3)], size := 9, bytes := 56, zero := .agg [.int .i64 0, .int .i64 0, .int .i64 0, .int .i64 0, .int .i64 0, .bool false, .bool false, .bool false, .int .i64 0], cmp := true }
def Try.ti68 : TI := { k := .func, size := 1, bytes := 8, zero := .nilfunc, cmp := false }
def Try.ti69 : TI := { k := .func, size := 1, bytes := 8, zero := .nilfunc, cmp := false }
def Try.ti70 : TI := { k := .map 65 4, size := 1, bytes := 8, zero := .nilmap, cmp := false }
def Try.ti71 : TI := { k := .func, size := 1, bytes := 8, zero := .nilfunc, cmp := false }
def Try.ti72 : TI := { k := .func, size := 1, bytes := 8, zero := .nilfunc, cmp := false }
def Try.ti73 : TI := { k := .func, size := 1, bytes := 8, zero := .nilfunc, cmp := false }
def Try.ti74 : TI := { k := .slice 116, size := 1, bytes := 24, zero := .nils, cmp := false }
def Try.ti75 : TI := { k := .struct [(0, 3), (1, 23), (4, 36), (5, 74)], size := 6, bytes := 80, zero := .agg [.int .i64 0, .int .i64 0, .int .i64 0, .int .i64 0, .nils, .nils], cmp := false }
def Try.ti76 : TI := { k := .struct [(0, 3), (1, 23), (4, 36), (5, 74)], size := 6, bytes := 80, zero := .agg [.int .i64 0, .int .i64 0, .int .i64 0, .int .i64 0, .nils, .nils], cmp := false }
def Try.ti77 : TI := { k := .slice 81, size := 1, bytes := 24, zero := .nils, cmp := false }
def Try.ti78 : TI := { k := .struct [(0, 76), (6, 3), (7, 3), (8, 4), (9, 77)], size := 10, bytes := 128, zero := .agg [.int .i64 0, .int .i64 0, .int .i64 0, .int .i64 0, .nils, .nils, .int .i64 0, .int .i64 0, .bool false, .nils], cmp := false }
def Try.ti79 : TI := { k := .struct [(0, 76), (6, 3), (7, 3), (8, 4), (9, 77)], size := 10, bytes := 128, zero := .agg [.int .i64 0, .int .i64 0, .int .i64 0, .int .i64 0, .nils, .nils, .int .i64 0, .int .i64 0, .bool false, .nils], cmp := false }
def Try.ti80 : TI := { k := .struct [(0, 5), (1, 3), (2, 3), (3, 3), (4, 3), (5, 3), (6, 3), (7, 36)], size := 8, bytes := 80, zero := .agg [.int .u8 0, .int .i64 0, .int .i64 0, .int .i64 0, .int .i64 0, .int .i64 0, .int .i64 0, .nils], cmp := false }
def Try.ti81 : TI := { k := .struct [(0, 5), (1, 3), (2, 3), (3, 3), (4, 3), (5, 3), (6, 3), (7, 36)], size := 8, bytes := 80, zero := .agg [.int .u8 0, .int .i64 0, .int .i64 0, .int .i64 0, .int .i64 0, .int .i64 0, .int .i64 0, .nils], cmp := false }
def Try.ti82 : TI := { k := .func, size := 1, bytes := 8, zero := .nilfunc, cmp := false }
def Try.ti83 : TI := { k := .func, size := 1, bytes := 8, zero := .nilfunc, cmp := false }
def Try.ti84 : TI := { k := .func, size := 1, bytes := 8, zero := .nilfunc, cmp := false }
def Try.ti85 : TI := { k := .func, size := 1, bytes := 8, zero := .nilfunc, cmp := false }
def Try.ti86 : TI := { k := .func, size := 1, bytes := 8, zero := .nilfunc, cmp := false }
def Try.ti87 : TI := { k := .func, size := 1, bytes := 8, zero := .nilfunc, cmp := false }
def Try.ti88 : TI := { k := .func, size := 1, bytes := 8, zero := .nilfunc, cmp := false }
def Try.ti89 : TI := { k := .func, size := 1, bytes := 8, zero := .nilfunc, cmp := false }
def Try.ti90 : TI := { k := .func, size := 1, bytes := 8, zero := .nilfunc, cmp := false }
def Try.ti91 : TI := { k := .func, size := 1, bytes := 8, zero := .nilfunc, cmp := false }
def Try.ti92 : TI := { k := .struct [(0, 5), (1, 3), (2, 76), (8, 3), (9, 3), (10, 3), (11, 3), (12, 3), (13, 3), (14, 3)], size := 15, bytes := 152, zero := .agg [.int .u8 0, .int .i64 0, .int .i64 0, .int .i64 0, .int .i64 0, .int .i64 0, .nils, .nils, .int .i64 0, .int .i64 0, .int .i64 0, .int .i64 0, .int .i64 0, .int .i64 0, .int .i64 0], cmp := false }
def Try.ti93 : TI := { k := .struct [(0, 5), (1, 3), (2, 76), (8, 3), (9, 3), (10, 3), (11, 3), (12, 3), (13, 3), (14, 3)], size := 15, bytes := 152, zero := .agg [.int .u8 0, .int .i64 0, .int .i64 0, .int .i64 0, .int .i64 0, .int .i64 0, .nils, .nils, .int .i64 0, .int .i64 0, .int .i64 0, .int .i64 0, .int .i64 0, .int .i64 0, .int .i64 0], cmp := false }
def Try.ti94 : TI := { k := .func, size := 1, bytes := 8, zero := .nilfunc, cmp := false }
def Try.ti95 : TI := { k := .func, size := 1, bytes := 8, zero := .nilfunc, cmp := false }
def Try.ti96 : TI := { k := .func, size := 1, bytes := 8, zero := .nilfunc, cmp := false }
def Try.ti97 : TI := { k := .func, size := 1, bytes := 8, zero := .nilfunc, cmp := false }
def Try.ti98 : TI := { k := .slice 96, size := 1, bytes := 24, zero := .nils, cmp := false }
def Try.ti99 : TI := { k := .func, size := 1, bytes := 8, zero := .nilfunc, cmp := false }
def Try.ti100 : TI := { k := .func, size := 1, bytes := 8, zero := .nilfunc, cmp := false }
def Try.ti101 : TI := { k := .func, size := 1, bytes := 8, zero := .nilfunc, cmp := false }
def Try.ti102 : TI := { k := .func, size := 1, bytes := 8, zero := .nilfunc, cmp := false }
def Try.ti103 : TI := { k := .array 3 3, size := 3, bytes := 24, zero := .agg [.int .i64 0, .int .i64 0, .int .i64 0], cmp := true }
def Try.ti104 : TI := { k := .func, size := 1, bytes := 8, zero := .nilfunc, cmp := false }
def Try.ti105 : TI := { k := .func, size := 1, bytes := 8, zero := .nilfunc, cmp := false }
def Try.ti106 : TI := { k := .func, size := 1, bytes := 8, zero := .nilfunc, cmp := false }
def Try.ti107 : TI := { k := .func, size := 1, bytes := 8, zero := .nilfunc, cmp := false }
def Try.ti108 : TI := { k := .func, size := 1, bytes := 8, zero := .nilfunc, cmp := false }
def Try.ti109 : TI := { k := .func, size := 1, bytes := 8, zero := .nilfunc, cmp := false }
def Try.ti110 : TI := { k := .func, size := 1, bytes := 8, zero := .nilfunc, cmp := false }
def Try.ti111 : TI := { k := .func, size := 1, bytes := 8, zero := .nilfunc, cmp := false }
def Try.ti112 : TI := { k := .func, size := 1, bytes := 8, zero := .nilfunc, cmp := false }
def Try.ti113 : TI := { k := .struct [(0, 4), (1, 3), (2, 3), (3, 3), (4, 3)], size := 5, bytes := 40, zero := .agg [.bool false, .int .i64 0, .int .i64 0, .int .i64 0, .int .i64 0], cmp := true }
def Try.ti114 : TI := { k := .struct [(0, 4), (1, 3), (2, 3), (3, 3), (4, 3)], size := 5, bytes := 40, zero := .agg [.bool false, .int .i64 0, .int .i64 0, .int .i64 0, .int .i64 0], cmp := true }
def Try.ti115 : TI := { k := .struct [(0, 114), (5, 3)], size := 6, bytes := 48, zero := .agg [.bool false, .int .i64 0, .int .i64 0, .int .i64 0, .int .i64 0, .int .i64 0], cmp := true }
def Try.ti116 : TI := { k := .struct [(0, 114), (5, 3)], size := 6, bytes := 48, zero := .agg [.bool false, .int .i64 0, .int .i64 0, .int .i64 0, .int .i64 0, .int .i64 0], cmp := true }
def Try.ti117 : TI := { k := .func, size := 1, bytes := 8, zero := .nilfunc, cmp := false }
def Try.ti118 : TI := { k := .struct [(0, 17), (1, 17), (2, 17), (3, 9)], size := 4, bytes := 40, zero := .agg [.nilptr, .nilptr, .nilptr, .str []], cmp := false }
def Try.ti119 : TI := { k := .struct [(0, 17), (1, 17), (2, 17), (3, 9)], size := 4, bytes := 40, zero := .agg [.nilptr, .nilptr, .nilptr, .str []], cmp := false }
def Try.ti120 : TI := { k := .array 0 16, size := 0, bytes := 0, zero := .agg [], cmp := false }
def Try.ti123 : TI := { k := .func, size := 1, bytes := 8, zero := .nilfunc, cmp := false }
def Try.ti124 : TI := { k := .int .u32, size := 1, bytes := 4, zero := .int .u32 0, cmp := true }
def Try.ti125 : TI := { k := .int .u8, size := 1, bytes := 1, zero := .int .u8 0, cmp := true }
def Try.ti126 : TI := { k := .int .u8, size := 1, bytes := 1, zero := .int .u8 0, cmp := true }
def Try.ti127 : TI := { k := .func, size := 1, bytes := 8, zero := .nilfunc, cmp := false }
def Try.ti128 : TI := { k := .ptr, size := 1, bytes := 8, zero := .nilptr, cmp := false }
def Try.ti129 : TI := { k := .int .i32, size := 1, bytes := 4, zero := .int .i32 0, cmp := true }
def Try.ti130 : TI := { k := .int .i32, size := 1, bytes := 4, zero := .int .i32 0, cmp := true }
def Try.ti131 : TI := { k := .struct [(0, 12), (1, 12), (2, 124), (3, 125), (4, 5), (5, 5), (6, 126), (7, 127), (8, 128), (9, 129), (10, 130)], size := 11, bytes := 48, zero := .agg [.int .u64 0, .int .u64 0, .int .u32 0, .int .u8 0, .int .u8 0, .int .u8 0, .int .u8 0, .nilfunc, .nilptr, .int .i32 0, .int .i32 0], cmp := false }
def Try.ti132 : TI := { k := .struct [(0, 12), (1, 12), (2, 124), (3, 125), (4, 5), (5, 5), (6, 126), (7, 127), (8, 128), (9, 129), (10, 130)], size := 11, bytes := 48, zero := .agg [.int .u64 0, .int .u64 0, .int .u32 0, .int .u8 0, .int .u8 0, .int .u8 0, .int .u8 0, .nilfunc, .nilptr, .int .i32 0, .int .i32 0], cmp := false }
noncomputable def Try.types_ : Tr TI := (.node 68 Try.ti68 (.node 35 Try.ti35 (.node 18 Try.ti18 (.node 8 Try.ti8 (.node 4 Try.ti4 (.node 2 Try.ti2 (.node 1 Try.ti1 .nil .nil) (.node 3 Try.ti3 .nil .nil)) (.node 6 Try.ti6 (.node 5 Try.ti5 .nil .nil) (.node 7 Try.ti7 .nil .nil))) (.node 12 Try.ti12 (.node 10 Try.ti10 (.node 9 Try.ti9 .nil .nil) (.node 11 Try.ti11 .nil .nil)) (.node 16 Try.ti16 (.node 15 Try.ti15 .nil .nil) (.node 17 Try.ti17 .nil .nil)))) (.node 26 Try.ti26 (.node 22 Try.ti22 (.node 20 Try.ti20 (.node 19 Try.ti19 .nil .nil) (.node 21 Try.ti21 .nil .nil)) (.node 24 Try.ti24 (.node 23 Try.ti23 .nil .nil) (.node 25 Try.ti25 .nil .nil))) (.node 30 Try.ti30 (.node 28 Try.ti28 (.node 27 Try.ti27 .nil .nil) (.node 29 Try.ti29 .nil .nil)) (.node 33 Try.ti33 (.node 32 Try.ti32 .nil .nil) (.node 34 Try.ti34 .nil .nil))))) (.node 52 Try.ti52 (.node 44 Try.ti44 (.node 40 Try.ti40 (.node 38 Try.ti38 (.node 36 Try.ti36 .nil .nil) (.node 39 Try.ti39 .nil .nil)) (.node 42 Try.ti42 (.node 41 Try.ti41 .nil .nil) (.node 43 Try.ti43 .nil .nil))) (.node 48 Try.ti48 (.node 46 Try.ti46 (.node 45 Try.ti45 .nil .nil) (.node 47 Try.ti47 .nil .nil)) (.node 50 Try.ti50 (.node 49 Try.ti49 .nil .nil) (.node 51 Try.ti51 .nil .nil)))) (.node 60 Try.ti60 (.node 56 Try.ti56 (.node 54 Try.ti54 (.node 53 Try.ti53 .nil .nil) (.node 55 Try.ti55 .nil .nil)) (.node 58 Try.ti58 (.node 57 Try.ti57 .nil .nil) (.node 59 Try.ti59 .nil .nil))) (.node 64 Try.ti64 (.node 62 Try.ti62 (.node 61 Try.ti61 .nil .nil) (.node 63 Try.ti63 .nil .nil)) (.node 66 Try.ti66 (.node 65 Try.ti65 .nil .nil) (.node 67 Try.ti67 .nil .nil)))))) (.node 100 Try.ti100 (.node 84 Try.ti84 (.node 76 Try.ti76 (.node 72 Try.ti72 (.node 70 Try.ti70 (.node 69 Try.ti69 .nil .nil) (.node 71 Try.ti71 .nil .nil)) (.node 74 Try.ti74 (.node 73 Try.ti73 .nil .nil) (.node 75 Try.ti75 .nil .nil))) (.node 80 Try.ti80 (.node 78 Try.ti78 (.node 77 Try.ti77 .nil .nil) (.node 79 Try.ti79 .nil .nil)) (.node 82 Try.ti82 (.node 81 Try.ti81 .nil .nil) (.node 83 Try.ti83 .nil .nil)))) (.node 92 Try.ti92 (.node 88 Try.ti88 (.node 86 Try.ti86 (.node 85 Try.ti85 .nil .nil) (.node 87 Try.ti87 .nil .nil)) (.node 90 Try.ti90 (.node 89 Try.ti89 .nil .nil) (.node 91 Try.ti91 .nil .nil))) (.node 96 Try.ti96 (.node 94 Try.ti94 (.node 93 Try.ti93 .nil .nil) (.node 95 Try.ti95 .nil .nil)) (.node 98 Try.ti98 (.node 97 Try.ti97 .nil .nil) (.node 99 Try.ti99 .nil .nil))))) (.node 116 Try.ti116 (.node 108 Try.ti108 (.node 104 Try.ti104 (.node 102 Try.ti102 (.node 101 Try.ti101 .nil .nil) (.node 103 Try.ti103 .nil .nil)) (.node 106 Try.ti106 (.node 105 Try.ti105 .nil .nil) (.node 107 Try.ti107 .nil .nil))) (.node 112 Try.ti112 (.node 110 Try.ti110 (.node 109 Try.ti109 .nil .nil) (.node 111 Try.ti111 .nil .nil)) (.node 114 Try.ti114 (.node 113 Try.ti113 .nil .nil) (.node 115 Try.ti115 .nil .nil)))) (.node 126 Try.ti126 (.node 120 Try.ti120 (.node 118 Try.ti118 (.node 117 Try.ti117 .nil .nil) (.node 119 Try.ti119 .nil .nil)) (.node 124 Try.ti124 (.node 123 Try.ti123 .nil .nil) (.node 125 Try.ti125 .nil .nil))) (.node 130 Try.ti130 (.node 128 Try.ti128 (.node 127 Try.ti127 .nil .nil) (.node 129 Try.ti129 .nil .nil)) (.node 132 Try.ti132 (.node 131 Try.ti131 .nil .nil) .nil))))))
noncomputable def Try.funcs_ : Tr Func := (.node 39 Try.f39 (.node 21 Try.f21 (.node 12 Try.f12 (.node 7 Try.f7 (.node 5 Try.f5 (.node 4 Try.f4 (.node 3 Try.f3 .nil .nil) .nil) (.node 6 Try.f6 .nil .nil)) (.node 10 Try.f10 (.node 9 Try.f9 (.node 8 Try.f8 .nil .nil) .nil) (.node 11 Try.f11 .nil .nil))) (.node 17 Try.f17 (.node 15 Try.f15 (.node 14 Try.f14 (.node 13 Try.f13 .nil .nil) .nil) (.node 16 Try.f16 .nil .nil)) (.node 19 Try.f19 (.node 18 Try.f18 .nil .nil) (.node 20 Try.f20 .nil .nil)))) (.node 30 Try.f30 (.node 26 Try.f26 (.node 24 Try.f24 (.node 23 Try.f23 (.node 22 Try.f22 .nil .nil) .nil) (.node 25 Try.f25 .nil .nil)) (.node 28 Try.f28 (.node 27 Try.f27 .nil .nil) (.node 29 Try.f29 .nil .nil))) (.node 35 Try.f35 (.node 33 Try.f33 (.node 32 Try.f32 (.node 31 Try.f31 .nil .nil) .nil) (.node 34 Try.f34 .nil .nil)) (.node 37 Try.f37 (.node 36 Try.f36 .nil .nil) (.node 38 Try.f38 .nil .nil))))) (.node 57 Try.f57 (.node 48 Try.f48 (.node 44 Try.f44 (.node 42 Try.f42 (.node 41 Try.f41 (.node 40 Try.f40 .nil .nil) .nil) (.node 43 Try.f43 .nil .nil)) (.node 46 Try.f46 (.node 45 Try.f45 .nil .nil) (.node 47 Try.f47 .nil .nil))) (.node 53 Try.f53 (.node 51 Try.f51 (.node 50 Try.f50 (.node 49 Try.f49 .nil .nil) .nil) (.node 52 Try.f52 .nil .nil)) (.node 55 Try.f55 (.node 54 Try.f54 .nil .nil) (.node 56 Try.f56 .nil .nil)))) (.node 66 Try.f66 (.node 62 Try.f62 (.node 60 Try.f60 (.node 59 Try.f59 (.node 58 Try.f58 .nil .nil) .nil) (.node 61 Try.f61 .nil .nil)) (.node 64 Try.f64 (.node 63 Try.f63 .nil .nil) (.node 65 Try.f65 .nil .nil))) (.node 71 Try.f71 (.node 69 Try.f69 (.node 68 Try.f68 (.node 67 Try.f67 .nil .nil) .nil) (.node 70 Try.f70 .nil .nil)) (.node 73 Try.f73 (.node 72 Try.f72 .nil .nil) (.node 74 Try.f74 .nil .nil))))))
noncomputable def Try.pure_ : Tr Unit := (.node 34 () (.node 18 () (.node 10 () (.node 6 () (.node 4 () (.node 3 () .nil .nil) (.node 5 () .nil .nil)) (.node 8 () (.node 7 () .nil .nil) (.node 9 () .nil .nil))) (.node 14 () (.node 12 () (.node 11 () .nil .nil) (.node 13 () .nil .nil)) (.node 16 () (.node 15 () .nil .nil) (.node 17 () .nil .nil)))) (.node 26 () (.node 22 () (.node 20 () (.node 19 () .nil .nil) (.node 21 () .nil .nil)) (.node 24 () (.node 23 () .nil .nil) (.node 25 () .nil .nil))) (.node 31 () (.node 29 () (.node 28 () .nil .nil) (.node 30 () .nil .nil)) (.node 33 () (.node 32 () .nil .nil) .nil)))) (.node 53 () (.node 43 () (.node 39 () (.node 36 () (.node 35 () .nil .nil) (.node 37 () .nil .nil)) (.node 41 () (.node 40 () .nil .nil) (.node 42 () .nil .nil))) (.node 47 () (.node 45 () (.node 44 () .nil .nil) (.node 46 () .nil .nil)) (.node 51 () (.node 48 () .nil .nil) .nil))) (.node 68 () (.node 64 () (.node 62 () (.node 55 () .nil .nil) (.node 63 () .nil .nil)) (.node 66 () (.node 65 () .nil .nil) (.node 67 () .nil .nil))) (.node 72 () (.node 70 () (.node 69 () .nil .nil) (.node 71 () .nil .nil)) (.node 74 () (.node 73 () .nil .nil) .nil)))))
noncomputable def Try.objs_ : Tr Unit := .nil
noncomputable def Try.S : Go.Sx.Sys := tabS Try.types_ Try.funcs_ .nil Try.pure_ Try.objs_ (fun _ => none) 0
theorem Try.types_ok : Try.types_.all (typeB Try.prog) = true := by kernel_rfl
theorem Try.funcs_ok : Try.funcs_.AllP fun f fn => Try.prog.funcs[f]? = some fn ∧ fn.body.isSome = true ∧ fn.name ≠ "runtime.NumGoroutine" := by
  exact ⟨⟨Try.func39, rfl, of_decide_eq_true (by kernel_rfl)⟩, ⟨⟨Try.func21, rfl, of_decide_eq_true (by kernel_rfl)⟩, ⟨⟨Try.func12, rfl, of_decide_eq_true (by kernel_rfl)⟩, ⟨⟨Try.func7, rfl, of_decide_eq_true (by kernel_rfl)⟩, ⟨⟨Try.func5, rfl, of_decide_eq_true (by kernel_rfl)⟩, ⟨⟨Try.func4, rfl, of_decide_eq_true (by kernel_rfl)⟩, ⟨⟨Try.func3, rfl, of_decide_eq_true (by kernel_rfl)⟩, trivial, trivial⟩, trivial⟩, ⟨⟨Try.func6, rfl, of_decide_eq_true (by kernel_rfl)⟩, trivial, trivial⟩⟩, ⟨⟨Try.func10, rfl, of_decide_eq_true (by kernel_rfl)⟩, ⟨⟨Try.func9, rfl, of_decide_eq_true (by kernel_rfl)⟩, ⟨⟨Try.func8, rfl, of_decide_eq_true (by kernel_rfl)⟩, trivial, trivial⟩, trivial⟩, ⟨⟨Try.func11, rfl, of_decide_eq_true (by kernel_rfl)⟩, trivial, trivial⟩⟩⟩, ⟨⟨Try.func17, rfl, of_decide_eq_true (by kernel_rfl)⟩, ⟨⟨Try.func15, rfl, of_decide_eq_true (by kernel_rfl)⟩, ⟨⟨Try.func14, rfl, of_decide_eq_true (by kernel_rfl)⟩, ⟨⟨Try.func13, rfl, of_decide_eq_true (by kernel_rfl)⟩, trivial, trivial⟩, trivial⟩, ⟨⟨Try.func16, rfl, of_decide_eq_true (by kernel_rfl)⟩, trivial, trivial⟩⟩, ⟨⟨Try.func19, rfl, of_decide_eq_true (by kernel_rfl)⟩, ⟨⟨Try.func18, rfl, of_decide_eq_true (by kernel_rfl)⟩, trivial, trivial⟩, ⟨⟨Try.func20, rfl, of_decide_eq_true (by kernel_rfl)⟩, trivial, trivial⟩⟩⟩⟩, ⟨⟨Try.func30, rfl, of_decide_eq_true (by kernel_rfl)⟩, ⟨⟨Try.func26, rfl, of_decide_eq_true (by kernel_rfl)⟩, ⟨⟨Try.func24, rfl, of_decide_eq_true (by kernel_rfl)⟩, ⟨⟨Try.func23, rfl, of_decide_eq_true (by kernel_rfl)⟩, ⟨⟨Try.func22, rfl, of_decide_eq_true (by kernel_rfl)⟩, trivial, trivial⟩, trivial⟩, ⟨⟨Try.func25, rfl, of_decide_eq_true (by kernel_rfl)⟩, trivial, trivial⟩⟩, ⟨⟨Try.func28, rfl, of_decide_eq_true (by kernel_rfl)⟩, ⟨⟨Try.func27, rfl, of_decide_eq_true (by kernel_rfl)⟩, trivial, trivial⟩, ⟨⟨Try.func29, rfl, of_decide_eq_true (by kernel_rfl)⟩, trivial, trivial⟩⟩⟩, ⟨⟨Try.func35, rfl, of_decide_eq_true (by kernel_rfl)⟩, ⟨⟨Try.func33, rfl, of_decide_eq_true (by kernel_rfl)⟩, ⟨⟨Try.func32, rfl, of_decide_eq_true (by kernel_rfl)⟩, ⟨⟨Try.func31, rfl, of_decide_eq_true (by kernel_rfl)⟩, trivial, trivial⟩, trivial⟩, ⟨⟨Try.func34, rfl, of_decide_eq_true (by kernel_rfl)⟩, trivial, trivial⟩⟩, ⟨⟨Try.func37, rfl, of_decide_eq_true (by kernel_rfl)⟩, ⟨⟨Try.func36, rfl, of_decide_eq_true (by kernel_rfl)⟩, trivial, trivial⟩, ⟨⟨Try.func38, rfl, of_decide_eq_true (by kernel_rfl)⟩, trivial, trivial⟩⟩⟩⟩⟩, ⟨⟨Try.func57, rfl, of_decide_eq_true (by kernel_rfl)⟩, ⟨⟨Try.func48, rfl, of_decide_eq_true (by kernel_rfl)⟩, ⟨⟨Try.func44, rfl, of_decide_eq_true (by kernel_rfl)⟩, ⟨⟨Try.func42, rfl, of_decide_eq_true (by kernel_rfl)⟩, ⟨⟨Try.func41, rfl, of_decide_eq_true (by kernel_rfl)⟩, ⟨⟨Try.func40, rfl, of_decide_eq_true (by kernel_rfl)⟩, trivial, trivial⟩, trivial⟩, ⟨⟨Try.func43, rfl, of_decide_eq_true (by kernel_rfl)⟩, trivial, trivial⟩⟩, ⟨⟨Try.func46, rfl, of_decide_eq_true (by kernel_rfl)⟩, ⟨⟨Try.func45, rfl, of_decide_eq_true (by kernel_rfl)⟩, trivial, trivial⟩, ⟨⟨Try.func47, rfl, of_decide_eq_true (by kernel_rfl)⟩, trivial, trivial⟩⟩⟩, ⟨⟨Try.func53, rfl, of_decide_eq_true (by kernel_rfl)⟩, ⟨⟨Try.func51, rfl, of_decide_eq_true (by kernel_rfl)⟩, ⟨⟨Try.func50, rfl, of_decide_eq_true (by kernel_rfl)⟩, ⟨⟨Try.func49, rfl, of_decide_eq_true (by kernel_rfl)⟩, trivial, trivial⟩, trivial⟩, ⟨⟨Try.func52, rfl, of_decide_eq_true (by kernel_rfl)⟩, trivial, trivial⟩⟩, ⟨⟨Try.func55, rfl, of_decide_eq_true (by kernel_rfl)⟩, ⟨⟨Try.func54, rfl, of_decide_eq_true (by kernel_rfl)⟩, trivial, trivial⟩, ⟨⟨Try.func56, rfl, of_decide_eq_true (by kernel_rfl)⟩, trivial, trivial⟩⟩⟩⟩, ⟨⟨Try.func66, rfl, of_decide_eq_true (by kernel_rfl)⟩, ⟨⟨Try.func62, rfl, of_decide_eq_true (by kernel_rfl)⟩, ⟨⟨Try.func60, rfl, of_decide_eq_true (by kernel_rfl)⟩, ⟨⟨Try.func59, rfl, of_decide_eq_true (by kernel_rfl)⟩, ⟨⟨Try.func58, rfl, of_decide_eq_true (by kernel_rfl)⟩, trivial, trivial⟩, trivial⟩, ⟨⟨Try.func61, rfl, of_decide_eq_true (by kernel_rfl)⟩, trivial, trivial⟩⟩, ⟨⟨Try.func64, rfl, of_decide_eq_true (by kernel_rfl)⟩, ⟨⟨Try.func63, rfl, of_decide_eq_true (by kernel_rfl)⟩, trivial, trivial⟩, ⟨⟨Try.func65, rfl, of_decide_eq_true (by kernel_rfl)⟩, trivial, trivial⟩⟩⟩, ⟨⟨Try.func71, rfl, of_decide_eq_true (by kernel_rfl)⟩, ⟨⟨Try.func69, rfl, of_decide_eq_true (by kernel_rfl)⟩, ⟨⟨Try.func68, rfl, of_decide_eq_true (by kernel_rfl)⟩, ⟨⟨Try.func67, rfl, of_decide_eq_true (by kernel_rfl)⟩, trivial, trivial⟩, trivial⟩, ⟨⟨Try.func70, rfl, of_decide_eq_true (by kernel_rfl)⟩, trivial, trivial⟩⟩, ⟨⟨Try.func73, rfl, of_decide_eq_true (by kernel_rfl)⟩, ⟨⟨Try.func72, rfl, of_decide_eq_true (by kernel_rfl)⟩, trivial, trivial⟩, ⟨⟨Try.func74, rfl, of_decide_eq_true (by kernel_rfl)⟩, trivial, trivial⟩⟩⟩⟩⟩⟩
theorem Try.ok : SysOK Try.S Try.prog := tab_ok Try.types_ok Try.funcs_ok trivial
theorem Try.mixed : Try.prog.follows .mixedOrders = true := by kernel_rfl
end Go.Proofs.Ytoagnbpmoihojaa
