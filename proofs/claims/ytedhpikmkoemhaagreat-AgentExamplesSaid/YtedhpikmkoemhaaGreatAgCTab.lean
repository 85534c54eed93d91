/- The tables of this seat's program: written by a program of ours. -/
import Derived.Test.YtedhpikmkoemhaaGreatEg
import Derived.Test.YtedhpikmkoemhaaGreatProg
set_option maxRecDepth 100000
namespace Go.Proofs.YtedhpikmkoemhaaGreat
open Go.Sx

def Tryz.cti1 : TI := { k := .func, size := 1, bytes := 8, zero := .nilfunc, cmp := false }
def Tryz.cti2 : TI := { k := .int .i64, size := 1, bytes := 8, zero := .int .i64 0, cmp := true }
def Tryz.cti3 : TI := { k := .int .i64, size := 1, bytes := 8, zero := .int .i64 0, cmp := true }
def Tryz.cti4 : TI := { k := .bool, size := 1, bytes := 1, zero := .bool false, cmp := true }
def Tryz.cti5 : TI := { k := .int .u8, size := 1, bytes := 1, zero := .int .u8 0, cmp := true }
def Tryz.cti6 : TI := { k := .int .u8, size := 1, bytes := 1, zero := .int .u8 0, cmp := true }
def Tryz.cti7 : TI := { k := .struct [(0, 2), (1, 3), (2, 4), (3, 6)], size := 4, bytes := 24, zero := .agg [.int .i64 0, .int .i64 0, .bool false, .int .u8 0], cmp := true }
def Tryz.cti8 : TI := { k := .struct [(0, 2), (1, 3), (2, 4), (3, 6)], size := 4, bytes := 24, zero := .agg [.int .i64 0, .int .i64 0, .bool false, .int .u8 0], cmp := true }
def Tryz.cti9 : TI := { k := .string, size := 1, bytes := 16, zero := .str [], cmp := true }
def Tryz.cti10 : TI := { k := .string, size := 1, bytes := 16, zero := .str [], cmp := true }
def Tryz.cti11 : TI := { k := .string, size := 1, bytes := 16, zero := .str [], cmp := true }
def Tryz.cti12 : TI := { k := .int .u64, size := 1, bytes := 8, zero := .int .u64 0, cmp := true }
def Tryz.cti15 : TI := { k := .ptr, size := 1, bytes := 8, zero := .nilptr, cmp := false }
def Tryz.cti16 : TI := { k := .ptr, size := 1, bytes := 8, zero := .nilptr, cmp := false }
def Tryz.cti17 : TI := { k := .ptr, size := 1, bytes := 8, zero := .nilptr, cmp := false }
def Tryz.cti18 : TI := { k := .struct [(0, 17)], size := 1, bytes := 8, zero := .agg [.nilptr], cmp := false }
def Tryz.cti19 : TI := { k := .struct [(0, 17)], size := 1, bytes := 8, zero := .agg [.nilptr], cmp := false }
def Tryz.cti20 : TI := { k := .iface, size := 1, bytes := 16, zero := .niliface, cmp := false }
def Tryz.cti21 : TI := { k := .int .i32, size := 1, bytes := 4, zero := .int .i32 0, cmp := true }
def Tryz.cti22 : TI := { k := .struct [(0, 3), (1, 3), (2, 3)], size := 3, bytes := 24, zero := .agg [.int .i64 0, .int .i64 0, .int .i64 0], cmp := true }
def Tryz.cti23 : TI := { k := .struct [(0, 3), (1, 3), (2, 3)], size := 3, bytes := 24, zero := .agg [.int .i64 0, .int .i64 0, .int .i64 0], cmp := true }
def Tryz.cti24 : TI := { k := .struct [(0, 23), (3, 3), (4, 3), (5, 3), (6, 3), (7, 3), (8, 3), (9, 3), (10, 3)], size := 11, bytes := 88, zero := .agg [.int .i64 0, .int .i64 0, .int .i64 0, .int .i64 0, .int .i64 0, .int .i64 0, .int .i64 0, .int .i64 0, .int .i64 0, .int .i64 0, .int .i64 0], cmp := true }
def Tryz.cti25 : TI := { k := .struct [(0, 23), (3, 3), (4, 3), (5, 3), (6, 3), (7, 3), (8, 3), (9, 3), (10, 3)], size := 11, bytes := 88, zero := .agg [.int .i64 0, .int .i64 0, .int .i64 0, .int .i64 0, .int .i64 0, .int .i64 0, .int .i64 0, .int .i64 0, .int .i64 0, .int .i64 0, .int .i64 0], cmp := true }
def Tryz.cti26 : TI := { k := .func, size := 1, bytes := 8, zero := .nilfunc, cmp := false }
def Tryz.cti27 : TI := { k := .ptr, size := 1, bytes := 8, zero := .nilptr, cmp := false }
def Tryz.cti28 : TI := { k := .int .i64, size := 1, bytes := 8, zero := .int .i64 0, cmp := true }
def Tryz.cti30 : TI := { k := .func, size := 1, bytes := 8, zero := .nilfunc, cmp := false }
def Tryz.cti31 : TI := { k := .ptr, size := 1, bytes := 8, zero := .nilptr, cmp := false }
def Tryz.cti33 : TI := { k := .func, size := 1, bytes := 8, zero := .nilfunc, cmp := false }
def Tryz.cti34 : TI := { k := .func, size := 1, bytes := 8, zero := .nilfunc, cmp := false }
def Tryz.cti35 : TI := { k := .slice 9, size := 1, bytes := 24, zero := .nils, cmp := false }
def Tryz.cti36 : TI := { k := .slice 5, size := 1, bytes := 24, zero := .nils, cmp := false }
def Tryz.cti38 : TI := { k := .func, size := 1, bytes := 8, zero := .nilfunc, cmp := false }
def Tryz.cti39 : TI := { k := .func, size := 1, bytes := 8, zero := .nilfunc, cmp := false }
def Tryz.cti40 : TI := { k := .func, size := 1, bytes := 8, zero := .nilfunc, cmp := false }
def Tryz.cti41 : TI := { k := .slice 3, size := 1, bytes := 24, zero := .nils, cmp := false }
def Tryz.cti42 : TI := { k := .ptr, size := 1, bytes := 8, zero := .nilptr, cmp := false }
def Tryz.cti43 : TI := { k := .func, size := 1, bytes := 8, zero := .nilfunc, cmp := false }
def Tryz.cti44 : TI := { k := .func, size := 1, bytes := 8, zero := .nilfunc, cmp := false }
def Tryz.cti45 : TI := { k := .slice 54, size := 1, bytes := 24, zero := .nils, cmp := false }
def Tryz.cti46 : TI := { k := .ptr, size := 1, bytes := 8, zero := .nilptr, cmp := false }
def Tryz.cti47 : TI := { k := .func, size := 1, bytes := 8, zero := .nilfunc, cmp := false }
def Tryz.cti48 : TI := { k := .func, size := 1, bytes := 8, zero := .nilfunc, cmp := false }
def Tryz.cti49 : TI := { k := .func, size := 1, bytes := 8, zero := .nilfunc, cmp := false }
def Tryz.cti50 : TI := { k := .struct [(0, 3), (1, 3), (2, 3)], size := 3, bytes := 24, zero := .agg [.int .i64 0, .int .i64 0, .int .i64 0], cmp := true }
def Tryz.cti51 : TI := { k := .struct [(0, 3), (1, 3), (2, 3)], size := 3, bytes := 24, zero := .agg [.int .i64 0, .int .i64 0, .int .i64 0], cmp := true }
def Tryz.cti52 : TI := { k := .func, size := 1, bytes := 8, zero := .nilfunc, cmp := false }
def Tryz.cti53 : TI := { k := .struct [(0, 3), (1, 3), (2, 51), (5, 4), (6, 4), (7, 4), (8, 3)], size := 9, bytes := 56, zero := .agg [.int .i64 0, .int .i64 0, .int .i64 0, .int .i64 0, .int .i64 0, .bool false, .bool false, .bool false, .int .i64 0], cmp := true }
def Tryz.cti54 : TI := { k := .struct [(0, 3), (1, 3), (2, 51), (5, 4), (6, 4), (7, 4), (8, 3)], size := 9, bytes := 56, zero := .agg [.int .i64 0, .int .i64 0, .int .i64 0, .int .i64 0, .int .i64 0, .bool false, .bool false, .bool false, .int .i64 0], cmp := true }
def Tryz.cti55 : TI := { k := .func, size := 1, bytes := 8, zero := .nilfunc, cmp := false }
def Tryz.cti56 : TI := { k := .func, size := 1, bytes := 8, zero := .nilfunc, cmp := false }
def Tryz.cti58 : TI := { k := .func, size := 1, bytes := 8, zero := .nilfunc, cmp := false }
def Tryz.cti59 : TI := { k := .slice 78, size := 1, bytes := 24, zero := .nils, cmp := false }
def Tryz.cti60 : TI := { k := .struct [(0, 3), (1, 3), (2, 3), (3, 3), (4, 59)], size := 5, bytes := 56, zero := .agg [.int .i64 0, .int .i64 0, .int .i64 0, .int .i64 0, .nils], cmp := false }
def Tryz.cti61 : TI := { k := .struct [(0, 3), (1, 3), (2, 3), (3, 3), (4, 59)], size := 5, bytes := 56, zero := .agg [.int .i64 0, .int .i64 0, .int .i64 0, .int .i64 0, .nils], cmp := false }
def Tryz.cti62 : TI := { k := .func, size := 1, bytes := 8, zero := .nilfunc, cmp := false }
def Tryz.cti63 : TI := { k := .func, size := 1, bytes := 8, zero := .nilfunc, cmp := false }
def Tryz.cti64 : TI := { k := .int .u64, size := 1, bytes := 8, zero := .int .u64 0, cmp := true }
def Tryz.cti65 : TI := { k := .struct [(0, 64), (1, 3), (2, 3)], size := 3, bytes := 24, zero := .agg [.int .u64 0, .int .i64 0, .int .i64 0], cmp := true }
def Tryz.cti66 : TI := { k := .struct [(0, 64), (1, 3), (2, 3)], size := 3, bytes := 24, zero := .agg [.int .u64 0, .int .i64 0, .int .i64 0], cmp := true }
def Tryz.cti67 : TI := { k := .slice 95, size := 1, bytes := 24, zero := .nils, cmp := false }
def Tryz.cti68 : TI := { k := .func, size := 1, bytes := 8, zero := .nilfunc, cmp := false }
def Tryz.cti69 : TI := { k := .func, size := 1, bytes := 8, zero := .nilfunc, cmp := false }
def Tryz.cti70 : TI := { k := .func, size := 1, bytes := 8, zero := .nilfunc, cmp := false }
def Tryz.cti71 : TI := { k := .struct [(0, 5), (1, 3), (2, 3), (3, 3), (4, 3), (5, 3), (6, 3), (7, 41)], size := 8, bytes := 80, zero := .agg [.int .u8 0, .int .i64 0, .int .i64 0, .int .i64 0, .int .i64 0, .int .i64 0, .int .i64 0, .nils], cmp := false }
def Tryz.cti72 : TI := { k := .struct [(0, 5), (1, 3), (2, 3), (3, 3), (4, 3), (5, 3), (6, 3), (7, 41)], size := 8, bytes := 80, zero := .agg [.int .u8 0, .int .i64 0, .int .i64 0, .int .i64 0, .int .i64 0, .int .i64 0, .int .i64 0, .nils], cmp := false }
def Tryz.cti73 : TI := { k := .slice 186, size := 1, bytes := 24, zero := .nils, cmp := false }
def Tryz.cti74 : TI := { k := .struct [(0, 3), (1, 23), (4, 41), (5, 73)], size := 6, bytes := 80, zero := .agg [.int .i64 0, .int .i64 0, .int .i64 0, .int .i64 0, .nils, .nils], cmp := false }
def Tryz.cti75 : TI := { k := .struct [(0, 3), (1, 23), (4, 41), (5, 73)], size := 6, bytes := 80, zero := .agg [.int .i64 0, .int .i64 0, .int .i64 0, .int .i64 0, .nils, .nils], cmp := false }
def Tryz.cti76 : TI := { k := .slice 72, size := 1, bytes := 24, zero := .nils, cmp := false }
def Tryz.cti77 : TI := { k := .struct [(0, 75), (6, 3), (7, 3), (8, 4), (9, 76)], size := 10, bytes := 128, zero := .agg [.int .i64 0, .int .i64 0, .int .i64 0, .int .i64 0, .nils, .nils, .int .i64 0, .int .i64 0, .bool false, .nils], cmp := false }
def Tryz.cti78 : TI := { k := .struct [(0, 75), (6, 3), (7, 3), (8, 4), (9, 76)], size := 10, bytes := 128, zero := .agg [.int .i64 0, .int .i64 0, .int .i64 0, .int .i64 0, .nils, .nils, .int .i64 0, .int .i64 0, .bool false, .nils], cmp := false }
def Tryz.cti79 : TI := { k := .struct [(0, 5), (1, 3), (2, 3), (3, 3), (4, 3), (5, 4), (6, 9), (7, 66), (10, 66)], size := 13, bytes := 112, zero := .agg [.int .u8 0, .int .i64 0, .int .i64 0, .int .i64 0, .int .i64 0, .bool false, .str [], .int .u64 0, .int .i64 0, .int .i64 0, .int .u64 0, .int .i64 0, .int .i64 0], cmp := true }
def Tryz.cti80 : TI := { k := .struct [(0, 5), (1, 3), (2, 3), (3, 3), (4, 3), (5, 4), (6, 9), (7, 66), (10, 66)], size := 13, bytes := 112, zero := .agg [.int .u8 0, .int .i64 0, .int .i64 0, .int .i64 0, .int .i64 0, .bool false, .str [], .int .u64 0, .int .i64 0, .int .i64 0, .int .u64 0, .int .i64 0, .int .i64 0], cmp := true }
def Tryz.cti81 : TI := { k := .slice 80, size := 1, bytes := 24, zero := .nils, cmp := false }
def Tryz.cti82 : TI := { k := .func, size := 1, bytes := 8, zero := .nilfunc, cmp := false }
def Tryz.cti83 : TI := { k := .slice 90, size := 1, bytes := 24, zero := .nils, cmp := false }
def Tryz.cti84 : TI := { k := .slice 92, size := 1, bytes := 24, zero := .nils, cmp := false }
def Tryz.cti86 : TI := { k := .func, size := 1, bytes := 8, zero := .nilfunc, cmp := false }
def Tryz.cti87 : TI := { k := .func, size := 1, bytes := 8, zero := .nilfunc, cmp := false }
def Tryz.cti88 : TI := { k := .slice 384, size := 1, bytes := 24, zero := .nils, cmp := false }
def Tryz.cti89 : TI := { k := .struct [(0, 5), (1, 88), (2, 3), (3, 9)], size := 4, bytes := 56, zero := .agg [.int .u8 0, .nils, .int .i64 0, .str []], cmp := false }
def Tryz.cti90 : TI := { k := .struct [(0, 5), (1, 88), (2, 3), (3, 9)], size := 4, bytes := 56, zero := .agg [.int .u8 0, .nils, .int .i64 0, .str []], cmp := false }
def Tryz.cti91 : TI := { k := .struct [(0, 3), (1, 4), (2, 4), (3, 4), (4, 61), (9, 45), (10, 41), (11, 3), (12, 67), (13, 67)], size := 14, bytes := 176, zero := .agg [.int .i64 0, .bool false, .bool false, .bool false, .int .i64 0, .int .i64 0, .int .i64 0, .int .i64 0, .nils, .nils, .nils, .int .i64 0, .nils, .nils], cmp := false }
def Tryz.cti92 : TI := { k := .struct [(0, 3), (1, 4), (2, 4), (3, 4), (4, 61), (9, 45), (10, 41), (11, 3), (12, 67), (13, 67)], size := 14, bytes := 176, zero := .agg [.int .i64 0, .bool false, .bool false, .bool false, .int .i64 0, .int .i64 0, .int .i64 0, .int .i64 0, .nils, .nils, .nils, .int .i64 0, .nils, .nils], cmp := false }
def Tryz.cti93 : TI := { k := .func, size := 1, bytes := 8, zero := .nilfunc, cmp := false }
def Tryz.cti94 : TI := { k := .struct [(0, 5), (1, 3), (2, 75), (8, 3), (9, 3), (10, 3), (11, 3), (12, 3), (13, 3), (14, 3)], size := 15, bytes := 152, zero := .agg [.int .u8 0, .int .i64 0, .int .i64 0, .int .i64 0, .int .i64 0, .int .i64 0, .nils, .nils, .int .i64 0, .int .i64 0, .int .i64 0, .int .i64 0, .int .i64 0, .int .i64 0, .int .i64 0], cmp := false }
def Tryz.cti95 : TI := { k := .struct [(0, 5), (1, 3), (2, 75), (8, 3), (9, 3), (10, 3), (11, 3), (12, 3), (13, 3), (14, 3)], size := 15, bytes := 152, zero := .agg [.int .u8 0, .int .i64 0, .int .i64 0, .int .i64 0, .int .i64 0, .int .i64 0, .nils, .nils, .int .i64 0, .int .i64 0, .int .i64 0, .int .i64 0, .int .i64 0, .int .i64 0, .int .i64 0], cmp := false }
def Tryz.cti96 : TI := { k := .ptr, size := 1, bytes := 8, zero := .nilptr, cmp := false }
def Tryz.cti98 : TI := { k := .func, size := 1, bytes := 8, zero := .nilfunc, cmp := false }
def Tryz.cti100 : TI := { k := .func, size := 1, bytes := 8, zero := .nilfunc, cmp := false }
def Tryz.cti101 : TI := { k := .func, size := 1, bytes := 8, zero := .nilfunc, cmp := false }
def Tryz.cti102 : TI := { k := .func, size := 1, bytes := 8, zero := .nilfunc, cmp := false }
def Tryz.cti103 : TI := { k := .func, size := 1, bytes := 8, zero := .nilfunc, cmp := false }
def Tryz.cti104 : TI := { k := .func, size := 1, bytes := 8, zero := .nilfunc, cmp := false }
def Tryz.cti105 : TI := { k := .func, size := 1, bytes := 8, zero := .nilfunc, cmp := false }
def Tryz.cti106 : TI := { k := .ptr, size := 1, bytes := 8, zero := .nilptr, cmp := false }
def Tryz.cti107 : TI := { k := .func, size := 1, bytes := 8, zero := .nilfunc, cmp := false }
def Tryz.cti108 : TI := { k := .ptr, size := 1, bytes := 8, zero := .nilptr, cmp := false }
def Tryz.cti109 : TI := { k := .array 2 66, size := 6, bytes := 48, zero := .agg [.int .u64 0, .int .i64 0, .int .i64 0, .int .u64 0, .int .i64 0, .int .i64 0], cmp := true }
def Tryz.cti110 : TI := { k := .struct [(0, 3), (1, 106), (2, 108), (3, 108), (4, 46), (5, 42), (6, 109)], size := 12, bytes := 96, zero := .agg [.int .i64 0, .nilptr, .nilptr, .nilptr, .nilptr, .nilptr, .int .u64 0, .int .i64 0, .int .i64 0, .int .u64 0, .int .i64 0, .int .i64 0], cmp := false }
def Tryz.cti111 : TI := { k := .struct [(0, 3), (1, 106), (2, 108), (3, 108), (4, 46), (5, 42), (6, 109)], size := 12, bytes := 96, zero := .agg [.int .i64 0, .nilptr, .nilptr, .nilptr, .nilptr, .nilptr, .int .u64 0, .int .i64 0, .int .i64 0, .int .u64 0, .int .i64 0, .int .i64 0], cmp := false }
def Tryz.cti112 : TI := { k := .array 4 28, size := 4, bytes := 32, zero := .agg [.int .i64 0, .int .i64 0, .int .i64 0, .int .i64 0], cmp := true }
def Tryz.cti114 : TI := { k := .func, size := 1, bytes := 8, zero := .nilfunc, cmp := false }
def Tryz.cti115 : TI := { k := .func, size := 1, bytes := 8, zero := .nilfunc, cmp := false }
def Tryz.cti117 : TI := { k := .func, size := 1, bytes := 8, zero := .nilfunc, cmp := false }
def Tryz.cti119 : TI := { k := .func, size := 1, bytes := 8, zero := .nilfunc, cmp := false }
def Tryz.cti120 : TI := { k := .ptr, size := 1, bytes := 8, zero := .nilptr, cmp := false }
def Tryz.cti122 : TI := { k := .func, size := 1, bytes := 8, zero := .nilfunc, cmp := false }
def Tryz.cti123 : TI := { k := .func, size := 1, bytes := 8, zero := .nilfunc, cmp := false }
def Tryz.cti124 : TI := { k := .ptr, size := 1, bytes := 8, zero := .nilptr, cmp := false }
def Tryz.cti126 : TI := { k := .func, size := 1, bytes := 8, zero := .nilfunc, cmp := false }
def Tryz.cti127 : TI := { k := .func, size := 1, bytes := 8, zero := .nilfunc, cmp := false }
def Tryz.cti129 : TI := { k := .func, size := 1, bytes := 8, zero := .nilfunc, cmp := false }
def Tryz.cti130 : TI := { k := .func, size := 1, bytes := 8, zero := .nilfunc, cmp := false }
def Tryz.cti131 : TI := { k := .ptr, size := 1, bytes := 8, zero := .nilptr, cmp := false }
def Tryz.cti132 : TI := { k := .func, size := 1, bytes := 8, zero := .nilfunc, cmp := false }
def Tryz.cti133 : TI := { k := .struct [(0, 120), (1, 25), (12, 27), (13, 124), (14, 131), (15, 3), (16, 4)], size := 17, bytes := 136, zero := .agg [.nilptr, .int .i64 0, .int .i64 0, .int .i64 0, .int .i64 0, .int .i64 0, .int .i64 0, .int .i64 0, .int .i64 0, .int .i64 0, .int .i64 0, .int .i64 0, .nilptr, .nilptr, .nilptr, .int .i64 0, .bool false], cmp := false }
def Tryz.cti134 : TI := { k := .struct [(0, 120), (1, 25), (12, 27), (13, 124), (14, 131), (15, 3), (16, 4)], size := 17, bytes := 136, zero := .agg [.nilptr, .int .i64 0, .int .i64 0, .int .i64 0, .int .i64 0, .int .i64 0, .int .i64 0, .int .i64 0, .int .i64 0, .int .i64 0, .int .i64 0, .int .i64 0, .nilptr, .nilptr, .nilptr, .int .i64 0, .bool false], cmp := false }
def Tryz.cti136 : TI := { k := .func, size := 1, bytes := 8, zero := .nilfunc, cmp := false }
def Tryz.cti137 : TI := { k := .func, size := 1, bytes := 8, zero := .nilfunc, cmp := false }
def Tryz.cti138 : TI := { k := .func, size := 1, bytes := 8, zero := .nilfunc, cmp := false }
def Tryz.cti139 : TI := { k := .slice 39, size := 1, bytes := 24, zero := .nils, cmp := false }
def Tryz.cti140 : TI := { k := .func, size := 1, bytes := 8, zero := .nilfunc, cmp := false }
def Tryz.cti141 : TI := { k := .struct [(0, 106), (1, 41)], size := 2, bytes := 32, zero := .agg [.nilptr, .nils], cmp := false }
def Tryz.cti142 : TI := { k := .struct [(0, 106), (1, 41)], size := 2, bytes := 32, zero := .agg [.nilptr, .nils], cmp := false }
def Tryz.cti143 : TI := { k := .map 3 146, size := 1, bytes := 8, zero := .nilmap, cmp := false }
def Tryz.cti144 : TI := { k := .struct [(0, 106), (1, 143), (2, 4)], size := 3, bytes := 24, zero := .agg [.nilptr, .nilmap, .bool false], cmp := false }
def Tryz.cti145 : TI := { k := .struct [(0, 106), (1, 143), (2, 4)], size := 3, bytes := 24, zero := .agg [.nilptr, .nilmap, .bool false], cmp := false }
def Tryz.cti146 : TI := { k := .ptr, size := 1, bytes := 8, zero := .nilptr, cmp := false }
def Tryz.cti147 : TI := { k := .func, size := 1, bytes := 8, zero := .nilfunc, cmp := false }
def Tryz.cti148 : TI := { k := .func, size := 1, bytes := 8, zero := .nilfunc, cmp := false }
def Tryz.cti149 : TI := { k := .func, size := 1, bytes := 8, zero := .nilfunc, cmp := false }
def Tryz.cti151 : TI := { k := .func, size := 1, bytes := 8, zero := .nilfunc, cmp := false }
def Tryz.cti152 : TI := { k := .func, size := 1, bytes := 8, zero := .nilfunc, cmp := false }
def Tryz.cti154 : TI := { k := .func, size := 1, bytes := 8, zero := .nilfunc, cmp := false }
def Tryz.cti155 : TI := { k := .func, size := 1, bytes := 8, zero := .nilfunc, cmp := false }
def Tryz.cti156 : TI := { k := .func, size := 1, bytes := 8, zero := .nilfunc, cmp := false }
def Tryz.cti157 : TI := { k := .func, size := 1, bytes := 8, zero := .nilfunc, cmp := false }
def Tryz.cti158 : TI := { k := .func, size := 1, bytes := 8, zero := .nilfunc, cmp := false }
def Tryz.cti159 : TI := { k := .func, size := 1, bytes := 8, zero := .nilfunc, cmp := false }
def Tryz.cti160 : TI := { k := .struct [(0, 25), (11, 27), (12, 31), (13, 3), (14, 92)], size := 28, bytes := 288, zero := .agg [.int .i64 0, .int .i64 0, .int .i64 0, .int .i64 0, .int .i64 0, .int .i64 0, .int .i64 0, .int .i64 0, .int .i64 0, .int .i64 0, .int .i64 0, .nilptr, .nilptr, .int .i64 0, .int .i64 0, .bool false, .bool false, .bool false, .int .i64 0, .int .i64 0, .int .i64 0, .int .i64 0, .nils, .nils, .nils, .int .i64 0, .nils, .nils], cmp := false }
def Tryz.cti161 : TI := { k := .struct [(0, 25), (11, 27), (12, 31), (13, 3), (14, 92)], size := 28, bytes := 288, zero := .agg [.int .i64 0, .int .i64 0, .int .i64 0, .int .i64 0, .int .i64 0, .int .i64 0, .int .i64 0, .int .i64 0, .int .i64 0, .int .i64 0, .int .i64 0, .nilptr, .nilptr, .int .i64 0, .int .i64 0, .bool false, .bool false, .bool false, .int .i64 0, .int .i64 0, .int .i64 0, .int .i64 0, .nils, .nils, .nils, .int .i64 0, .nils, .nils], cmp := false }
def Tryz.cti162 : TI := { k := .func, size := 1, bytes := 8, zero := .nilfunc, cmp := false }
def Tryz.cti163 : TI := { k := .func, size := 1, bytes := 8, zero := .nilfunc, cmp := false }
def Tryz.cti164 : TI := { k := .func, size := 1, bytes := 8, zero := .nilfunc, cmp := false }
def Tryz.cti165 : TI := { k := .ptr, size := 1, bytes := 8, zero := .nilptr, cmp := false }
def Tryz.cti166 : TI := { k := .ptr, size := 1, bytes := 8, zero := .nilptr, cmp := false }
def Tryz.cti167 : TI := { k := .func, size := 1, bytes := 8, zero := .nilfunc, cmp := false }
def Tryz.cti168 : TI := { k := .func, size := 1, bytes := 8, zero := .nilfunc, cmp := false }
def Tryz.cti169 : TI := { k := .func, size := 1, bytes := 8, zero := .nilfunc, cmp := false }
def Tryz.cti170 : TI := { k := .func, size := 1, bytes := 8, zero := .nilfunc, cmp := false }
def Tryz.cti171 : TI := { k := .map 174 4, size := 1, bytes := 8, zero := .nilmap, cmp := false }
def Tryz.cti172 : TI := { k := .map 51 4, size := 1, bytes := 8, zero := .nilmap, cmp := false }
def Tryz.cti173 : TI := { k := .struct [(0, 3), (1, 3)], size := 2, bytes := 16, zero := .agg [.int .i64 0, .int .i64 0], cmp := true }
def Tryz.cti174 : TI := { k := .struct [(0, 3), (1, 3)], size := 2, bytes := 16, zero := .agg [.int .i64 0, .int .i64 0], cmp := true }
def Tryz.cti175 : TI := { k := .func, size := 1, bytes := 8, zero := .nilfunc, cmp := false }
def Tryz.cti176 : TI := { k := .func, size := 1, bytes := 8, zero := .nilfunc, cmp := false }
def Tryz.cti177 : TI := { k := .func, size := 1, bytes := 8, zero := .nilfunc, cmp := false }
def Tryz.cti178 : TI := { k := .func, size := 1, bytes := 8, zero := .nilfunc, cmp := false }
def Tryz.cti179 : TI := { k := .func, size := 1, bytes := 8, zero := .nilfunc, cmp := false }
def Tryz.cti180 : TI := { k := .func, size := 1, bytes := 8, zero := .nilfunc, cmp := false }
def Tryz.cti181 : TI := { k := .map 174 182, size := 1, bytes := 8, zero := .nilmap, cmp := false }
def Tryz.cti182 : TI := { k := .ptr, size := 1, bytes := 8, zero := .nilptr, cmp := false }
def Tryz.cti183 : TI := { k := .struct [(0, 4), (1, 3), (2, 3), (3, 3), (4, 3)], size := 5, bytes := 40, zero := .agg [.bool false, .int .i64 0, .int .i64 0, .int .i64 0, .int .i64 0], cmp := true }
def Tryz.cti184 : TI := { k := .struct [(0, 4), (1, 3), (2, 3), (3, 3), (4, 3)], size := 5, bytes := 40, zero := .agg [.bool false, .int .i64 0, .int .i64 0, .int .i64 0, .int .i64 0], cmp := true }
def Tryz.cti185 : TI := { k := .struct [(0, 184), (5, 3)], size := 6, bytes := 48, zero := .agg [.bool false, .int .i64 0, .int .i64 0, .int .i64 0, .int .i64 0, .int .i64 0], cmp := true }
def Tryz.cti186 : TI := { k := .struct [(0, 184), (5, 3)], size := 6, bytes := 48, zero := .agg [.bool false, .int .i64 0, .int .i64 0, .int .i64 0, .int .i64 0, .int .i64 0], cmp := true }
def Tryz.cti187 : TI := { k := .struct [(0, 184), (5, 41)], size := 6, bytes := 64, zero := .agg [.bool false, .int .i64 0, .int .i64 0, .int .i64 0, .int .i64 0, .nils], cmp := false }
def Tryz.cti188 : TI := { k := .struct [(0, 184), (5, 41)], size := 6, bytes := 64, zero := .agg [.bool false, .int .i64 0, .int .i64 0, .int .i64 0, .int .i64 0, .nils], cmp := false }
def Tryz.cti189 : TI := { k := .func, size := 1, bytes := 8, zero := .nilfunc, cmp := false }
def Tryz.cti190 : TI := { k := .func, size := 1, bytes := 8, zero := .nilfunc, cmp := false }
def Tryz.cti191 : TI := { k := .func, size := 1, bytes := 8, zero := .nilfunc, cmp := false }
def Tryz.cti192 : TI := { k := .func, size := 1, bytes := 8, zero := .nilfunc, cmp := false }
def Tryz.cti193 : TI := { k := .func, size := 1, bytes := 8, zero := .nilfunc, cmp := false }
def Tryz.cti194 : TI := { k := .func, size := 1, bytes := 8, zero := .nilfunc, cmp := false }
def Tryz.cti195 : TI := { k := .struct [(0, 3), (1, 3), (2, 194)], size := 3, bytes := 24, zero := .agg [.int .i64 0, .int .i64 0, .nilfunc], cmp := false }
def Tryz.cti196 : TI := { k := .struct [(0, 3), (1, 3), (2, 194)], size := 3, bytes := 24, zero := .agg [.int .i64 0, .int .i64 0, .nilfunc], cmp := false }
def Tryz.cti197 : TI := { k := .func, size := 1, bytes := 8, zero := .nilfunc, cmp := false }
def Tryz.cti198 : TI := { k := .map 3 9, size := 1, bytes := 8, zero := .nilmap, cmp := false }
def Tryz.cti199 : TI := { k := .slice 268, size := 1, bytes := 24, zero := .nils, cmp := false }
def Tryz.cti200 : TI := { k := .struct [(0, 106), (1, 3), (2, 4), (3, 198), (4, 199)], size := 5, bytes := 56, zero := .agg [.nilptr, .int .i64 0, .bool false, .nilmap, .nils], cmp := false }
def Tryz.cti201 : TI := { k := .struct [(0, 106), (1, 3), (2, 4), (3, 198), (4, 199)], size := 5, bytes := 56, zero := .agg [.nilptr, .int .i64 0, .bool false, .nilmap, .nils], cmp := false }
def Tryz.cti202 : TI := { k := .struct [(0, 201)], size := 5, bytes := 56, zero := .agg [.nilptr, .int .i64 0, .bool false, .nilmap, .nils], cmp := false }
def Tryz.cti203 : TI := { k := .struct [(0, 201)], size := 5, bytes := 56, zero := .agg [.nilptr, .int .i64 0, .bool false, .nilmap, .nils], cmp := false }
def Tryz.cti204 : TI := { k := .ptr, size := 1, bytes := 8, zero := .nilptr, cmp := false }
def Tryz.cti206 : TI := { k := .func, size := 1, bytes := 8, zero := .nilfunc, cmp := false }
def Tryz.cti207 : TI := { k := .struct [(0, 204), (1, 25), (12, 108), (13, 61), (18, 67), (19, 67), (20, 4)], size := 21, bytes := 216, zero := .agg [.nilptr, .int .i64 0, .int .i64 0, .int .i64 0, .int .i64 0, .int .i64 0, .int .i64 0, .int .i64 0, .int .i64 0, .int .i64 0, .int .i64 0, .int .i64 0, .nilptr, .int .i64 0, .int .i64 0, .int .i64 0, .int .i64 0, .nils, .nils, .nils, .bool false], cmp := false }
def Tryz.cti208 : TI := { k := .struct [(0, 204), (1, 25), (12, 108), (13, 61), (18, 67), (19, 67), (20, 4)], size := 21, bytes := 216, zero := .agg [.nilptr, .int .i64 0, .int .i64 0, .int .i64 0, .int .i64 0, .int .i64 0, .int .i64 0, .int .i64 0, .int .i64 0, .int .i64 0, .int .i64 0, .int .i64 0, .nilptr, .int .i64 0, .int .i64 0, .int .i64 0, .int .i64 0, .nils, .nils, .nils, .bool false], cmp := false }
def Tryz.cti210 : TI := { k := .func, size := 1, bytes := 8, zero := .nilfunc, cmp := false }
def Tryz.cti212 : TI := { k := .func, size := 1, bytes := 8, zero := .nilfunc, cmp := false }
def Tryz.cti213 : TI := { k := .func, size := 1, bytes := 8, zero := .nilfunc, cmp := false }
def Tryz.cti215 : TI := { k := .func, size := 1, bytes := 8, zero := .nilfunc, cmp := false }
def Tryz.cti216 : TI := { k := .struct [(0, 25), (11, 108), (12, 3)], size := 13, bytes := 104, zero := .agg [.int .i64 0, .int .i64 0, .int .i64 0, .int .i64 0, .int .i64 0, .int .i64 0, .int .i64 0, .int .i64 0, .int .i64 0, .int .i64 0, .int .i64 0, .nilptr, .int .i64 0], cmp := false }
def Tryz.cti217 : TI := { k := .struct [(0, 25), (11, 108), (12, 3)], size := 13, bytes := 104, zero := .agg [.int .i64 0, .int .i64 0, .int .i64 0, .int .i64 0, .int .i64 0, .int .i64 0, .int .i64 0, .int .i64 0, .int .i64 0, .int .i64 0, .int .i64 0, .nilptr, .int .i64 0], cmp := false }
def Tryz.cti218 : TI := { k := .struct [(0, 61), (5, 4)], size := 6, bytes := 64, zero := .agg [.int .i64 0, .int .i64 0, .int .i64 0, .int .i64 0, .nils, .bool false], cmp := false }
def Tryz.cti219 : TI := { k := .struct [(0, 61), (5, 4)], size := 6, bytes := 64, zero := .agg [.int .i64 0, .int .i64 0, .int .i64 0, .int .i64 0, .nils, .bool false], cmp := false }
def Tryz.cti221 : TI := { k := .func, size := 1, bytes := 8, zero := .nilfunc, cmp := false }
def Tryz.cti222 : TI := { k := .func, size := 1, bytes := 8, zero := .nilfunc, cmp := false }
def Tryz.cti224 : TI := { k := .func, size := 1, bytes := 8, zero := .nilfunc, cmp := false }
def Tryz.cti225 : TI := { k := .map 51 3, size := 1, bytes := 8, zero := .nilmap, cmp := false }
def Tryz.cti226 : TI := { k := .struct [(0, 225)], size := 1, bytes := 8, zero := .agg [.nilmap], cmp := false }
def Tryz.cti227 : TI := { k := .struct [(0, 225)], size := 1, bytes := 8, zero := .agg [.nilmap], cmp := false }
def Tryz.cti228 : TI := { k := .func, size := 1, bytes := 8, zero := .nilfunc, cmp := false }
def Tryz.cti229 : TI := { k := .struct [(0, 5), (1, 3), (2, 75), (8, 3)], size := 9, bytes := 104, zero := .agg [.int .u8 0, .int .i64 0, .int .i64 0, .int .i64 0, .int .i64 0, .int .i64 0, .nils, .nils, .int .i64 0], cmp := false }
def Tryz.cti230 : TI := { k := .struct [(0, 5), (1, 3), (2, 75), (8, 3)], size := 9, bytes := 104, zero := .agg [.int .u8 0, .int .i64 0, .int .i64 0, .int .i64 0, .int .i64 0, .int .i64 0, .nils, .nils, .int .i64 0], cmp := false }
def Tryz.cti232 : TI := { k := .func, size := 1, bytes := 8, zero := .nilfunc, cmp := false }
def Tryz.cti233 : TI := { k := .func, size := 1, bytes := 8, zero := .nilfunc, cmp := false }
def Tryz.cti234 : TI := { k := .func, size := 1, bytes := 8, zero := .nilfunc, cmp := false }
def Tryz.cti236 : TI := { k := .func, size := 1, bytes := 8, zero := .nilfunc, cmp := false }
def Tryz.cti238 : TI := { k := .func, size := 1, bytes := 8, zero := .nilfunc, cmp := false }
def Tryz.cti239 : TI := { k := .func, size := 1, bytes := 8, zero := .nilfunc, cmp := false }
def Tryz.cti240 : TI := { k := .func, size := 1, bytes := 8, zero := .nilfunc, cmp := false }
def Tryz.cti241 : TI := { k := .func, size := 1, bytes := 8, zero := .nilfunc, cmp := false }
def Tryz.cti243 : TI := { k := .func, size := 1, bytes := 8, zero := .nilfunc, cmp := false }
def Tryz.cti244 : TI := { k := .slice 51, size := 1, bytes := 24, zero := .nils, cmp := false }
def Tryz.cti245 : TI := { k := .func, size := 1, bytes := 8, zero := .nilfunc, cmp := false }
def Tryz.cti246 : TI := { k := .func, size := 1, bytes := 8, zero := .nilfunc, cmp := false }
def Tryz.cti247 : TI := { k := .func, size := 1, bytes := 8, zero := .nilfunc, cmp := false }
def Tryz.cti248 : TI := { k := .struct [(0, 3), (1, 3), (2, 3)], size := 3, bytes := 24, zero := .agg [.int .i64 0, .int .i64 0, .int .i64 0], cmp := true }
def Tryz.cti249 : TI := { k := .struct [(0, 3), (1, 3), (2, 3)], size := 3, bytes := 24, zero := .agg [.int .i64 0, .int .i64 0, .int .i64 0], cmp := true }
def Tryz.cti250 : TI := { k := .func, size := 1, bytes := 8, zero := .nilfunc, cmp := false }
def Tryz.cti251 : TI := { k := .map 3 260, size := 1, bytes := 8, zero := .nilmap, cmp := false }
def Tryz.cti252 : TI := { k := .struct [(0, 3), (1, 3), (2, 3), (3, 3)], size := 4, bytes := 32, zero := .agg [.int .i64 0, .int .i64 0, .int .i64 0, .int .i64 0], cmp := true }
def Tryz.cti253 : TI := { k := .struct [(0, 3), (1, 3), (2, 3), (3, 3)], size := 4, bytes := 32, zero := .agg [.int .i64 0, .int .i64 0, .int .i64 0, .int .i64 0], cmp := true }
def Tryz.cti255 : TI := { k := .func, size := 1, bytes := 8, zero := .nilfunc, cmp := false }
def Tryz.cti256 : TI := { k := .slice 260, size := 1, bytes := 24, zero := .nils, cmp := false }
def Tryz.cti258 : TI := { k := .func, size := 1, bytes := 8, zero := .nilfunc, cmp := false }
def Tryz.cti259 : TI := { k := .struct [(0, 3), (1, 3), (2, 3), (3, 3), (4, 9)], size := 5, bytes := 48, zero := .agg [.int .i64 0, .int .i64 0, .int .i64 0, .int .i64 0, .str []], cmp := true }
def Tryz.cti260 : TI := { k := .struct [(0, 3), (1, 3), (2, 3), (3, 3), (4, 9)], size := 5, bytes := 48, zero := .agg [.int .i64 0, .int .i64 0, .int .i64 0, .int .i64 0, .str []], cmp := true }
def Tryz.cti261 : TI := { k := .func, size := 1, bytes := 8, zero := .nilfunc, cmp := false }
def Tryz.cti262 : TI := { k := .func, size := 1, bytes := 8, zero := .nilfunc, cmp := false }
def Tryz.cti263 : TI := { k := .func, size := 1, bytes := 8, zero := .nilfunc, cmp := false }
def Tryz.cti264 : TI := { k := .func, size := 1, bytes := 8, zero := .nilfunc, cmp := false }
def Tryz.cti265 : TI := { k := .func, size := 1, bytes := 8, zero := .nilfunc, cmp := false }
def Tryz.cti266 : TI := { k := .func, size := 1, bytes := 8, zero := .nilfunc, cmp := false }
def Tryz.cti267 : TI := { k := .struct [(0, 3), (1, 9)], size := 2, bytes := 24, zero := .agg [.int .i64 0, .str []], cmp := true }
def Tryz.cti268 : TI := { k := .struct [(0, 3), (1, 9)], size := 2, bytes := 24, zero := .agg [.int .i64 0, .str []], cmp := true }
def Tryz.cti269 : TI := { k := .func, size := 1, bytes := 8, zero := .nilfunc, cmp := false }
def Tryz.cti270 : TI := { k := .func, size := 1, bytes := 8, zero := .nilfunc, cmp := false }
def Tryz.cti271 : TI := { k := .func, size := 1, bytes := 8, zero := .nilfunc, cmp := false }
def Tryz.cti272 : TI := { k := .func, size := 1, bytes := 8, zero := .nilfunc, cmp := false }
def Tryz.cti273 : TI := { k := .func, size := 1, bytes := 8, zero := .nilfunc, cmp := false }
def Tryz.cti274 : TI := { k := .slice 146, size := 1, bytes := 24, zero := .nils, cmp := false }
def Tryz.cti275 : TI := { k := .func, size := 1, bytes := 8, zero := .nilfunc, cmp := false }
def Tryz.cti276 : TI := { k := .func, size := 1, bytes := 8, zero := .nilfunc, cmp := false }
def Tryz.cti277 : TI := { k := .func, size := 1, bytes := 8, zero := .nilfunc, cmp := false }
def Tryz.cti278 : TI := { k := .func, size := 1, bytes := 8, zero := .nilfunc, cmp := false }
def Tryz.cti279 : TI := { k := .func, size := 1, bytes := 8, zero := .nilfunc, cmp := false }
def Tryz.cti280 : TI := { k := .func, size := 1, bytes := 8, zero := .nilfunc, cmp := false }
def Tryz.cti281 : TI := { k := .func, size := 1, bytes := 8, zero := .nilfunc, cmp := false }
def Tryz.cti282 : TI := { k := .func, size := 1, bytes := 8, zero := .nilfunc, cmp := false }
def Tryz.cti283 : TI := { k := .slice 23, size := 1, bytes := 24, zero := .nils, cmp := false }
def Tryz.cti284 : TI := { k := .func, size := 1, bytes := 8, zero := .nilfunc, cmp := false }
def Tryz.cti285 : TI := { k := .func, size := 1, bytes := 8, zero := .nilfunc, cmp := false }
def Tryz.cti287 : TI := { k := .func, size := 1, bytes := 8, zero := .nilfunc, cmp := false }
def Tryz.cti288 : TI := { k := .func, size := 1, bytes := 8, zero := .nilfunc, cmp := false }
def Tryz.cti289 : TI := { k := .func, size := 1, bytes := 8, zero := .nilfunc, cmp := false }
def Tryz.cti290 : TI := { k := .func, size := 1, bytes := 8, zero := .nilfunc, cmp := false }
def Tryz.cti291 : TI := { k := .func, size := 1, bytes := 8, zero := .nilfunc, cmp := false }
def Tryz.cti292 : TI := { k := .array 3 3, size := 3, bytes := 24, zero := .agg [.int .i64 0, .int .i64 0, .int .i64 0], cmp := true }
def Tryz.cti293 : TI := { k := .func, size := 1, bytes := 8, zero := .nilfunc, cmp := false }
def Tryz.cti294 : TI := { k := .struct [(0, 3), (1, 3), (2, 3), (3, 3), (4, 3)], size := 5, bytes := 40, zero := .agg [.int .i64 0, .int .i64 0, .int .i64 0, .int .i64 0, .int .i64 0], cmp := true }
def Tryz.cti295 : TI := { k := .struct [(0, 3), (1, 3), (2, 3), (3, 3), (4, 3)], size := 5, bytes := 40, zero := .agg [.int .i64 0, .int .i64 0, .int .i64 0, .int .i64 0, .int .i64 0], cmp := true }
def Tryz.cti297 : TI := { k := .func, size := 1, bytes := 8, zero := .nilfunc, cmp := false }
def Tryz.cti298 : TI := { k := .struct [(0, 108), (1, 3), (2, 295), (7, 3), (8, 3), (9, 4)], size := 10, bytes := 80, zero := .agg [.nilptr, .int .i64 0, .int .i64 0, .int .i64 0, .int .i64 0, .int .i64 0, .int .i64 0, .int .i64 0, .int .i64 0, .bool false], cmp := false }
def Tryz.cti299 : TI := { k := .struct [(0, 108), (1, 3), (2, 295), (7, 3), (8, 3), (9, 4)], size := 10, bytes := 80, zero := .agg [.nilptr, .int .i64 0, .int .i64 0, .int .i64 0, .int .i64 0, .int .i64 0, .int .i64 0, .int .i64 0, .int .i64 0, .bool false], cmp := false }
def Tryz.cti300 : TI := { k := .func, size := 1, bytes := 8, zero := .nilfunc, cmp := false }
def Tryz.cti301 : TI := { k := .func, size := 1, bytes := 8, zero := .nilfunc, cmp := false }
def Tryz.cti302 : TI := { k := .func, size := 1, bytes := 8, zero := .nilfunc, cmp := false }
def Tryz.cti304 : TI := { k := .func, size := 1, bytes := 8, zero := .nilfunc, cmp := false }
def Tryz.cti305 : TI := { k := .func, size := 1, bytes := 8, zero := .nilfunc, cmp := false }
def Tryz.cti306 : TI := { k := .slice 311, size := 1, bytes := 24, zero := .nils, cmp := false }
def Tryz.cti307 : TI := { k := .func, size := 1, bytes := 8, zero := .nilfunc, cmp := false }
def Tryz.cti308 : TI := { k := .ptr, size := 1, bytes := 8, zero := .nilptr, cmp := false }
def Tryz.cti309 : TI := { k := .ptr, size := 1, bytes := 8, zero := .nilptr, cmp := false }
def Tryz.cti310 : TI := { k := .struct [(0, 3), (1, 309), (2, 3)], size := 3, bytes := 24, zero := .agg [.int .i64 0, .nilptr, .int .i64 0], cmp := false }
def Tryz.cti311 : TI := { k := .struct [(0, 3), (1, 309), (2, 3)], size := 3, bytes := 24, zero := .agg [.int .i64 0, .nilptr, .int .i64 0], cmp := false }
def Tryz.cti313 : TI := { k := .func, size := 1, bytes := 8, zero := .nilfunc, cmp := false }
def Tryz.cti314 : TI := { k := .func, size := 1, bytes := 8, zero := .nilfunc, cmp := false }
def Tryz.cti315 : TI := { k := .ptr, size := 1, bytes := 8, zero := .nilptr, cmp := false }
def Tryz.cti316 : TI := { k := .struct [(0, 25), (11, 61)], size := 16, bytes := 144, zero := .agg [.int .i64 0, .int .i64 0, .int .i64 0, .int .i64 0, .int .i64 0, .int .i64 0, .int .i64 0, .int .i64 0, .int .i64 0, .int .i64 0, .int .i64 0, .int .i64 0, .int .i64 0, .int .i64 0, .int .i64 0, .nils], cmp := false }
def Tryz.cti317 : TI := { k := .struct [(0, 25), (11, 61)], size := 16, bytes := 144, zero := .agg [.int .i64 0, .int .i64 0, .int .i64 0, .int .i64 0, .int .i64 0, .int .i64 0, .int .i64 0, .int .i64 0, .int .i64 0, .int .i64 0, .int .i64 0, .int .i64 0, .int .i64 0, .int .i64 0, .int .i64 0, .nils], cmp := false }
def Tryz.cti318 : TI := { k := .func, size := 1, bytes := 8, zero := .nilfunc, cmp := false }
def Tryz.cti319 : TI := { k := .map 5 318, size := 1, bytes := 8, zero := .nilmap, cmp := false }
def Tryz.cti320 : TI := { k := .func, size := 1, bytes := 8, zero := .nilfunc, cmp := false }
def Tryz.cti321 : TI := { k := .func, size := 1, bytes := 8, zero := .nilfunc, cmp := false }
def Tryz.cti322 : TI := { k := .func, size := 1, bytes := 8, zero := .nilfunc, cmp := false }
def Tryz.cti323 : TI := { k := .func, size := 1, bytes := 8, zero := .nilfunc, cmp := false }
def Tryz.cti324 : TI := { k := .map 3 4, size := 1, bytes := 8, zero := .nilmap, cmp := false }
def Tryz.cti325 : TI := { k := .func, size := 1, bytes := 8, zero := .nilfunc, cmp := false }
def Tryz.cti326 : TI := { k := .func, size := 1, bytes := 8, zero := .nilfunc, cmp := false }
def Tryz.cti327 : TI := { k := .func, size := 1, bytes := 8, zero := .nilfunc, cmp := false }
def Tryz.cti328 : TI := { k := .func, size := 1, bytes := 8, zero := .nilfunc, cmp := false }
def Tryz.cti330 : TI := { k := .func, size := 1, bytes := 8, zero := .nilfunc, cmp := false }
def Tryz.cti331 : TI := { k := .func, size := 1, bytes := 8, zero := .nilfunc, cmp := false }
def Tryz.cti332 : TI := { k := .struct [(0, 25), (11, 61), (16, 230), (25, 3), (26, 23), (29, 41)], size := 30, bytes := 304, zero := .agg [.int .i64 0, .int .i64 0, .int .i64 0, .int .i64 0, .int .i64 0, .int .i64 0, .int .i64 0, .int .i64 0, .int .i64 0, .int .i64 0, .int .i64 0, .int .i64 0, .int .i64 0, .int .i64 0, .int .i64 0, .nils, .int .u8 0, .int .i64 0, .int .i64 0, .int .i64 0, .int .i64 0, .int .i64 0, .nils, .nils, .int .i64 0, .int .i64 0, .int .i64 0, .int .i64 0, .int .i64 0, .nils], cmp := false }
def Tryz.cti333 : TI := { k := .struct [(0, 25), (11, 61), (16, 230), (25, 3), (26, 23), (29, 41)], size := 30, bytes := 304, zero := .agg [.int .i64 0, .int .i64 0, .int .i64 0, .int .i64 0, .int .i64 0, .int .i64 0, .int .i64 0, .int .i64 0, .int .i64 0, .int .i64 0, .int .i64 0, .int .i64 0, .int .i64 0, .int .i64 0, .int .i64 0, .nils, .int .u8 0, .int .i64 0, .int .i64 0, .int .i64 0, .int .i64 0, .int .i64 0, .nils, .nils, .int .i64 0, .int .i64 0, .int .i64 0, .int .i64 0, .int .i64 0, .nils], cmp := false }
def Tryz.cti335 : TI := { k := .func, size := 1, bytes := 8, zero := .nilfunc, cmp := false }
def Tryz.cti336 : TI := { k := .func, size := 1, bytes := 8, zero := .nilfunc, cmp := false }
def Tryz.cti337 : TI := { k := .array 3 336, size := 3, bytes := 24, zero := .agg [.nilfunc, .nilfunc, .nilfunc], cmp := false }
def Tryz.cti338 : TI := { k := .func, size := 1, bytes := 8, zero := .nilfunc, cmp := false }
def Tryz.cti339 : TI := { k := .func, size := 1, bytes := 8, zero := .nilfunc, cmp := false }
def Tryz.cti340 : TI := { k := .func, size := 1, bytes := 8, zero := .nilfunc, cmp := false }
def Tryz.cti341 : TI := { k := .func, size := 1, bytes := 8, zero := .nilfunc, cmp := false }
def Tryz.cti342 : TI := { k := .func, size := 1, bytes := 8, zero := .nilfunc, cmp := false }
def Tryz.cti343 : TI := { k := .func, size := 1, bytes := 8, zero := .nilfunc, cmp := false }
def Tryz.cti344 : TI := { k := .func, size := 1, bytes := 8, zero := .nilfunc, cmp := false }
def Tryz.cti345 : TI := { k := .func, size := 1, bytes := 8, zero := .nilfunc, cmp := false }
def Tryz.cti346 : TI := { k := .struct [(0, 25), (11, 3)], size := 12, bytes := 96, zero := .agg [.int .i64 0, .int .i64 0, .int .i64 0, .int .i64 0, .int .i64 0, .int .i64 0, .int .i64 0, .int .i64 0, .int .i64 0, .int .i64 0, .int .i64 0, .int .i64 0], cmp := true }
def Tryz.cti347 : TI := { k := .struct [(0, 25), (11, 3)], size := 12, bytes := 96, zero := .agg [.int .i64 0, .int .i64 0, .int .i64 0, .int .i64 0, .int .i64 0, .int .i64 0, .int .i64 0, .int .i64 0, .int .i64 0, .int .i64 0, .int .i64 0, .int .i64 0], cmp := true }
def Tryz.cti348 : TI := { k := .struct [(0, 3), (1, 4), (2, 4), (3, 4), (4, 4), (5, 54), (14, 4)], size := 15, bytes := 80, zero := .agg [.int .i64 0, .bool false, .bool false, .bool false, .bool false, .int .i64 0, .int .i64 0, .int .i64 0, .int .i64 0, .int .i64 0, .bool false, .bool false, .bool false, .int .i64 0, .bool false], cmp := true }
def Tryz.cti349 : TI := { k := .struct [(0, 3), (1, 4), (2, 4), (3, 4), (4, 4), (5, 54), (14, 4)], size := 15, bytes := 80, zero := .agg [.int .i64 0, .bool false, .bool false, .bool false, .bool false, .int .i64 0, .int .i64 0, .int .i64 0, .int .i64 0, .int .i64 0, .bool false, .bool false, .bool false, .int .i64 0, .bool false], cmp := true }
def Tryz.cti350 : TI := { k := .struct [(0, 5), (1, 3)], size := 2, bytes := 16, zero := .agg [.int .u8 0, .int .i64 0], cmp := true }
def Tryz.cti351 : TI := { k := .struct [(0, 5), (1, 3)], size := 2, bytes := 16, zero := .agg [.int .u8 0, .int .i64 0], cmp := true }
def Tryz.cti352 : TI := { k := .struct [(0, 3), (1, 3), (2, 61), (7, 349), (22, 351)], size := 24, bytes := 168, zero := .agg [.int .i64 0, .int .i64 0, .int .i64 0, .int .i64 0, .int .i64 0, .int .i64 0, .nils, .int .i64 0, .bool false, .bool false, .bool false, .bool false, .int .i64 0, .int .i64 0, .int .i64 0, .int .i64 0, .int .i64 0, .bool false, .bool false, .bool false, .int .i64 0, .bool false, .int .u8 0, .int .i64 0], cmp := false }
def Tryz.cti353 : TI := { k := .struct [(0, 3), (1, 3), (2, 61), (7, 349), (22, 351)], size := 24, bytes := 168, zero := .agg [.int .i64 0, .int .i64 0, .int .i64 0, .int .i64 0, .int .i64 0, .int .i64 0, .nils, .int .i64 0, .bool false, .bool false, .bool false, .bool false, .int .i64 0, .int .i64 0, .int .i64 0, .int .i64 0, .int .i64 0, .bool false, .bool false, .bool false, .int .i64 0, .bool false, .int .u8 0, .int .i64 0], cmp := false }
def Tryz.cti354 : TI := { k := .func, size := 1, bytes := 8, zero := .nilfunc, cmp := false }
def Tryz.cti356 : TI := { k := .func, size := 1, bytes := 8, zero := .nilfunc, cmp := false }
def Tryz.cti358 : TI := { k := .func, size := 1, bytes := 8, zero := .nilfunc, cmp := false }
def Tryz.cti359 : TI := { k := .func, size := 1, bytes := 8, zero := .nilfunc, cmp := false }
def Tryz.cti360 : TI := { k := .array 7 359, size := 7, bytes := 56, zero := .agg [.nilfunc, .nilfunc, .nilfunc, .nilfunc, .nilfunc, .nilfunc, .nilfunc], cmp := false }
def Tryz.cti361 : TI := { k := .func, size := 1, bytes := 8, zero := .nilfunc, cmp := false }
def Tryz.cti362 : TI := { k := .func, size := 1, bytes := 8, zero := .nilfunc, cmp := false }
def Tryz.cti363 : TI := { k := .func, size := 1, bytes := 8, zero := .nilfunc, cmp := false }
def Tryz.cti364 : TI := { k := .func, size := 1, bytes := 8, zero := .nilfunc, cmp := false }
def Tryz.cti365 : TI := { k := .func, size := 1, bytes := 8, zero := .nilfunc, cmp := false }
def Tryz.cti366 : TI := { k := .func, size := 1, bytes := 8, zero := .nilfunc, cmp := false }
def Tryz.cti367 : TI := { k := .func, size := 1, bytes := 8, zero := .nilfunc, cmp := false }
def Tryz.cti369 : TI := { k := .func, size := 1, bytes := 8, zero := .nilfunc, cmp := false }
def Tryz.cti371 : TI := { k := .func, size := 1, bytes := 8, zero := .nilfunc, cmp := false }
def Tryz.cti372 : TI := { k := .func, size := 1, bytes := 8, zero := .nilfunc, cmp := false }
def Tryz.cti373 : TI := { k := .func, size := 1, bytes := 8, zero := .nilfunc, cmp := false }
def Tryz.cti374 : TI := { k := .func, size := 1, bytes := 8, zero := .nilfunc, cmp := false }
def Tryz.cti375 : TI := { k := .int .u32, size := 1, bytes := 4, zero := .int .u32 0, cmp := true }
def Tryz.cti376 : TI := { k := .func, size := 1, bytes := 8, zero := .nilfunc, cmp := false }
def Tryz.cti377 : TI := { k := .func, size := 1, bytes := 8, zero := .nilfunc, cmp := false }
def Tryz.cti378 : TI := { k := .func, size := 1, bytes := 8, zero := .nilfunc, cmp := false }
def Tryz.cti379 : TI := { k := .ptr, size := 1, bytes := 8, zero := .nilptr, cmp := false }
def Tryz.cti381 : TI := { k := .func, size := 1, bytes := 8, zero := .nilfunc, cmp := false }
def Tryz.cti382 : TI := { k := .func, size := 1, bytes := 8, zero := .nilfunc, cmp := false }
def Tryz.cti383 : TI := { k := .struct [(0, 3), (1, 3), (2, 5), (3, 3), (4, 3), (5, 3), (6, 4)], size := 7, bytes := 56, zero := .agg [.int .i64 0, .int .i64 0, .int .u8 0, .int .i64 0, .int .i64 0, .int .i64 0, .bool false], cmp := true }
def Tryz.cti384 : TI := { k := .struct [(0, 3), (1, 3), (2, 5), (3, 3), (4, 3), (5, 3), (6, 4)], size := 7, bytes := 56, zero := .agg [.int .i64 0, .int .i64 0, .int .u8 0, .int .i64 0, .int .i64 0, .int .i64 0, .bool false], cmp := true }
def Tryz.cti385 : TI := { k := .func, size := 1, bytes := 8, zero := .nilfunc, cmp := false }
def Tryz.cti386 : TI := { k := .func, size := 1, bytes := 8, zero := .nilfunc, cmp := false }
def Tryz.cti387 : TI := { k := .func, size := 1, bytes := 8, zero := .nilfunc, cmp := false }
def Tryz.cti388 : TI := { k := .func, size := 1, bytes := 8, zero := .nilfunc, cmp := false }
def Tryz.cti389 : TI := { k := .func, size := 1, bytes := 8, zero := .nilfunc, cmp := false }
def Tryz.cti390 : TI := { k := .func, size := 1, bytes := 8, zero := .nilfunc, cmp := false }
def Tryz.cti391 : TI := { k := .func, size := 1, bytes := 8, zero := .nilfunc, cmp := false }
def Tryz.cti392 : TI := { k := .func, size := 1, bytes := 8, zero := .nilfunc, cmp := false }
def Tryz.cti393 : TI := { k := .func, size := 1, bytes := 8, zero := .nilfunc, cmp := false }
def Tryz.cti394 : TI := { k := .func, size := 1, bytes := 8, zero := .nilfunc, cmp := false }
def Tryz.cti395 : TI := { k := .func, size := 1, bytes := 8, zero := .nilfunc, cmp := false }
def Tryz.cti396 : TI := { k := .int .u64, size := 1, bytes := 8, zero := .int .u64 0, cmp := true }
def Tryz.cti397 : TI := { k := .func, size := 1, bytes := 8, zero := .nilfunc, cmp := false }
def Tryz.cti398 : TI := { k := .func, size := 1, bytes := 8, zero := .nilfunc, cmp := false }
def Tryz.cti399 : TI := { k := .struct [(0, 3), (1, 3), (2, 3), (3, 3), (4, 3)], size := 5, bytes := 40, zero := .agg [.int .i64 0, .int .i64 0, .int .i64 0, .int .i64 0, .int .i64 0], cmp := true }
def Tryz.cti400 : TI := { k := .array 2 399, size := 10, bytes := 80, zero := .agg [.int .i64 0, .int .i64 0, .int .i64 0, .int .i64 0, .int .i64 0, .int .i64 0, .int .i64 0, .int .i64 0, .int .i64 0, .int .i64 0], cmp := true }
def Tryz.cti401 : TI := { k := .func, size := 1, bytes := 8, zero := .nilfunc, cmp := false }
def Tryz.cti402 : TI := { k := .func, size := 1, bytes := 8, zero := .nilfunc, cmp := false }
def Tryz.cti403 : TI := { k := .func, size := 1, bytes := 8, zero := .nilfunc, cmp := false }
def Tryz.cti404 : TI := { k := .struct [(0, 3), (1, 3), (2, 3), (3, 3), (4, 5), (5, 9)], size := 6, bytes := 56, zero := .agg [.int .i64 0, .int .i64 0, .int .i64 0, .int .i64 0, .int .u8 0, .str []], cmp := true }
def Tryz.cti405 : TI := { k := .struct [(0, 3), (1, 3), (2, 3), (3, 3), (4, 5), (5, 9)], size := 6, bytes := 56, zero := .agg [.int .i64 0, .int .i64 0, .int .i64 0, .int .i64 0, .int .u8 0, .str []], cmp := true }
def Tryz.cti406 : TI := { k := .func, size := 1, bytes := 8, zero := .nilfunc, cmp := false }
def Tryz.cti408 : TI := { k := .func, size := 1, bytes := 8, zero := .nilfunc, cmp := false }
def Tryz.cti409 : TI := { k := .func, size := 1, bytes := 8, zero := .nilfunc, cmp := false }
def Tryz.cti410 : TI := { k := .struct [], size := 0, bytes := 0, zero := .agg [], cmp := true }
def Tryz.cti411 : TI := { k := .struct [], size := 0, bytes := 0, zero := .agg [], cmp := true }
def Tryz.cti413 : TI := { k := .ptr, size := 1, bytes := 8, zero := .nilptr, cmp := false }
def Tryz.cti414 : TI := { k := .struct [(0, 9)], size := 1, bytes := 16, zero := .agg [.str []], cmp := true }
def Tryz.cti415 : TI := { k := .struct [(0, 9)], size := 1, bytes := 16, zero := .agg [.str []], cmp := true }
def Tryz.cti416 : TI := { k := .func, size := 1, bytes := 8, zero := .nilfunc, cmp := false }
def Tryz.cti417 : TI := { k := .func, size := 1, bytes := 8, zero := .nilfunc, cmp := false }
def Tryz.cti418 : TI := { k := .func, size := 1, bytes := 8, zero := .nilfunc, cmp := false }
def Tryz.cti419 : TI := { k := .func, size := 1, bytes := 8, zero := .nilfunc, cmp := false }
def Tryz.cti421 : TI := { k := .ptr, size := 1, bytes := 8, zero := .nilptr, cmp := false }
def Tryz.cti422 : TI := { k := .struct [(0, 9)], size := 1, bytes := 16, zero := .agg [.str []], cmp := true }
def Tryz.cti423 : TI := { k := .struct [(0, 9)], size := 1, bytes := 16, zero := .agg [.str []], cmp := true }
def Tryz.cti424 : TI := { k := .func, size := 1, bytes := 8, zero := .nilfunc, cmp := false }
def Tryz.cti425 : TI := { k := .func, size := 1, bytes := 8, zero := .nilfunc, cmp := false }
def Tryz.cti426 : TI := { k := .func, size := 1, bytes := 8, zero := .nilfunc, cmp := false }
def Tryz.cti427 : TI := { k := .func, size := 1, bytes := 8, zero := .nilfunc, cmp := false }
def Tryz.cti428 : TI := { k := .func, size := 1, bytes := 8, zero := .nilfunc, cmp := false }
def Tryz.cti429 : TI := { k := .func, size := 1, bytes := 8, zero := .nilfunc, cmp := false }
def Tryz.cti430 : TI := { k := .iface, size := 1, bytes := 16, zero := .niliface, cmp := false }
def Tryz.cti431 : TI := { k := .iface, size := 1, bytes := 16, zero := .niliface, cmp := false }
def Tryz.cti432 : TI := { k := .func, size := 1, bytes := 8, zero := .nilfunc, cmp := false }
def Tryz.cti433 : TI := { k := .slice 41, size := 1, bytes := 24, zero := .nils, cmp := false }
def Tryz.cti434 : TI := { k := .func, size := 1, bytes := 8, zero := .nilfunc, cmp := false }
def Tryz.cti435 : TI := { k := .func, size := 1, bytes := 8, zero := .nilfunc, cmp := false }
def Tryz.cti436 : TI := { k := .func, size := 1, bytes := 8, zero := .nilfunc, cmp := false }
def Tryz.cti437 : TI := { k := .array 2 3, size := 2, bytes := 16, zero := .agg [.int .i64 0, .int .i64 0], cmp := true }
def Tryz.cti438 : TI := { k := .func, size := 1, bytes := 8, zero := .nilfunc, cmp := false }
def Tryz.cti439 : TI := { k := .func, size := 1, bytes := 8, zero := .nilfunc, cmp := false }
def Tryz.cti440 : TI := { k := .func, size := 1, bytes := 8, zero := .nilfunc, cmp := false }
def Tryz.cti441 : TI := { k := .func, size := 1, bytes := 8, zero := .nilfunc, cmp := false }
def Tryz.cti443 : TI := { k := .map 5 441, size := 1, bytes := 8, zero := .nilmap, cmp := false }
def Tryz.cti444 : TI := { k := .func, size := 1, bytes := 8, zero := .nilfunc, cmp := false }
def Tryz.cti445 : TI := { k := .func, size := 1, bytes := 8, zero := .nilfunc, cmp := false }
def Tryz.cti446 : TI := { k := .func, size := 1, bytes := 8, zero := .nilfunc, cmp := false }
def Tryz.cti447 : TI := { k := .func, size := 1, bytes := 8, zero := .nilfunc, cmp := false }
def Tryz.cti448 : TI := { k := .func, size := 1, bytes := 8, zero := .nilfunc, cmp := false }
def Tryz.cti449 : TI := { k := .func, size := 1, bytes := 8, zero := .nilfunc, cmp := false }
def Tryz.cti450 : TI := { k := .func, size := 1, bytes := 8, zero := .nilfunc, cmp := false }
def Tryz.cti452 : TI := { k := .func, size := 1, bytes := 8, zero := .nilfunc, cmp := false }
def Tryz.cti453 : TI := { k := .func, size := 1, bytes := 8, zero := .nilfunc, cmp := false }
def Tryz.cti454 : TI := { k := .func, size := 1, bytes := 8, zero := .nilfunc, cmp := false }
def Tryz.cti456 : TI := { k := .func, size := 1, bytes := 8, zero := .nilfunc, cmp := false }
def Tryz.cti457 : TI := { k := .ptr, size := 1, bytes := 8, zero := .nilptr, cmp := false }
def Tryz.cti458 : TI := { k := .struct [(0, 457), (1, 36)], size := 2, bytes := 32, zero := .agg [.nilptr, .nils], cmp := false }
def Tryz.cti459 : TI := { k := .struct [(0, 457), (1, 36)], size := 2, bytes := 32, zero := .agg [.nilptr, .nils], cmp := false }
def Tryz.cti460 : TI := { k := .func, size := 1, bytes := 8, zero := .nilfunc, cmp := false }
def Tryz.cti461 : TI := { k := .iface, size := 1, bytes := 16, zero := .niliface, cmp := false }
def Tryz.cti462 : TI := { k := .iface, size := 1, bytes := 16, zero := .niliface, cmp := false }
def Tryz.cti464 : TI := { k := .func, size := 1, bytes := 8, zero := .nilfunc, cmp := false }
def Tryz.cti465 : TI := { k := .func, size := 1, bytes := 8, zero := .nilfunc, cmp := false }
def Tryz.cti466 : TI := { k := .func, size := 1, bytes := 8, zero := .nilfunc, cmp := false }
def Tryz.cti467 : TI := { k := .func, size := 1, bytes := 8, zero := .nilfunc, cmp := false }
def Tryz.cti468 : TI := { k := .int .i64, size := 1, bytes := 8, zero := .int .i64 0, cmp := true }
def Tryz.cti470 : TI := { k := .func, size := 1, bytes := 8, zero := .nilfunc, cmp := false }
def Tryz.cti471 : TI := { k := .func, size := 1, bytes := 8, zero := .nilfunc, cmp := false }
def Tryz.cti472 : TI := { k := .func, size := 1, bytes := 8, zero := .nilfunc, cmp := false }
def Tryz.cti473 : TI := { k := .func, size := 1, bytes := 8, zero := .nilfunc, cmp := false }
def Tryz.cti475 : TI := { k := .func, size := 1, bytes := 8, zero := .nilfunc, cmp := false }
def Tryz.cti476 : TI := { k := .func, size := 1, bytes := 8, zero := .nilfunc, cmp := false }
def Tryz.cti477 : TI := { k := .func, size := 1, bytes := 8, zero := .nilfunc, cmp := false }
def Tryz.cti478 : TI := { k := .func, size := 1, bytes := 8, zero := .nilfunc, cmp := false }
def Tryz.cti479 : TI := { k := .func, size := 1, bytes := 8, zero := .nilfunc, cmp := false }
def Tryz.cti480 : TI := { k := .func, size := 1, bytes := 8, zero := .nilfunc, cmp := false }
def Tryz.cti481 : TI := { k := .ptr, size := 1, bytes := 8, zero := .nilptr, cmp := false }
def Tryz.cti482 : TI := { k := .func, size := 1, bytes := 8, zero := .nilfunc, cmp := false }
def Tryz.cti483 : TI := { k := .func, size := 1, bytes := 8, zero := .nilfunc, cmp := false }
def Tryz.cti484 : TI := { k := .ptr, size := 1, bytes := 8, zero := .nilptr, cmp := false }
def Tryz.cti486 : TI := { k := .func, size := 1, bytes := 8, zero := .nilfunc, cmp := false }
def Tryz.cti487 : TI := { k := .ptr, size := 1, bytes := 8, zero := .nilptr, cmp := false }
def Tryz.cti489 : TI := { k := .func, size := 1, bytes := 8, zero := .nilfunc, cmp := false }
def Tryz.cti490 : TI := { k := .func, size := 1, bytes := 8, zero := .nilfunc, cmp := false }
def Tryz.cti491 : TI := { k := .func, size := 1, bytes := 8, zero := .nilfunc, cmp := false }
def Tryz.cti492 : TI := { k := .func, size := 1, bytes := 8, zero := .nilfunc, cmp := false }
def Tryz.cti493 : TI := { k := .func, size := 1, bytes := 8, zero := .nilfunc, cmp := false }
def Tryz.cti494 : TI := { k := .func, size := 1, bytes := 8, zero := .nilfunc, cmp := false }
def Tryz.cti495 : TI := { k := .struct [(0, 75)], size := 6, bytes := 80, zero := .agg [.int .i64 0, .int .i64 0, .int .i64 0, .int .i64 0, .nils, .nils], cmp := false }
def Tryz.cti496 : TI := { k := .struct [(0, 75)], size := 6, bytes := 80, zero := .agg [.int .i64 0, .int .i64 0, .int .i64 0, .int .i64 0, .nils, .nils], cmp := false }
def Tryz.cti497 : TI := { k := .struct [(0, 3)], size := 1, bytes := 8, zero := .agg [.int .i64 0], cmp := true }
def Tryz.cti498 : TI := { k := .struct [(0, 3)], size := 1, bytes := 8, zero := .agg [.int .i64 0], cmp := true }
def Tryz.cti499 : TI := { k := .struct [(0, 3)], size := 1, bytes := 8, zero := .agg [.int .i64 0], cmp := true }
def Tryz.cti500 : TI := { k := .array 8 5, size := 8, bytes := 8, zero := .agg [.int .u8 0, .int .u8 0, .int .u8 0, .int .u8 0, .int .u8 0, .int .u8 0, .int .u8 0, .int .u8 0], cmp := true }
def Tryz.cti501 : TI := { k := .func, size := 1, bytes := 8, zero := .nilfunc, cmp := false }
def Tryz.cti502 : TI := { k := .func, size := 1, bytes := 8, zero := .nilfunc, cmp := false }
def Tryz.cti503 : TI := { k := .func, size := 1, bytes := 8, zero := .nilfunc, cmp := false }
def Tryz.cti504 : TI := { k := .func, size := 1, bytes := 8, zero := .nilfunc, cmp := false }
def Tryz.cti505 : TI := { k := .func, size := 1, bytes := 8, zero := .nilfunc, cmp := false }
def Tryz.cti506 : TI := { k := .func, size := 1, bytes := 8, zero := .nilfunc, cmp := false }
def Tryz.cti507 : TI := { k := .func, size := 1, bytes := 8, zero := .nilfunc, cmp := false }
def Tryz.cti508 : TI := { k := .func, size := 1, bytes := 8, zero := .nilfunc, cmp := false }
def Tryz.cti510 : TI := { k := .func, size := 1, bytes := 8, zero := .nilfunc, cmp := false }
def Tryz.cti512 : TI := { k := .func, size := 1, bytes := 8, zero := .nilfunc, cmp := false }
def Tryz.cti513 : TI := { k := .func, size := 1, bytes := 8, zero := .nilfunc, cmp := false }
def Tryz.cti515 : TI := { k := .func, size := 1, bytes := 8, zero := .nilfunc, cmp := false }
def Tryz.cti517 : TI := { k := .func, size := 1, bytes := 8, zero := .nilfunc, cmp := false }
def Tryz.cti518 : TI := { k := .ptr, size := 1, bytes := 8, zero := .nilptr, cmp := false }
def Tryz.cti519 : TI := { k := .func, size := 1, bytes := 8, zero := .nilfunc, cmp := false }
def Tryz.cti520 : TI := { k := .int .u64, size := 1, bytes := 8, zero := .int .u64 0, cmp := true }
def Tryz.cti521 : TI := { k := .func, size := 1, bytes := 8, zero := .nilfunc, cmp := false }
def Tryz.cti522 : TI := { k := .func, size := 1, bytes := 8, zero := .nilfunc, cmp := false }
def Tryz.cti523 : TI := { k := .func, size := 1, bytes := 8, zero := .nilfunc, cmp := false }
def Tryz.cti524 : TI := { k := .func, size := 1, bytes := 8, zero := .nilfunc, cmp := false }
def Tryz.cti525 : TI := { k := .string, size := 1, bytes := 16, zero := .str [], cmp := true }
def Tryz.cti526 : TI := { k := .func, size := 1, bytes := 8, zero := .nilfunc, cmp := false }
def Tryz.cti527 : TI := { k := .func, size := 1, bytes := 8, zero := .nilfunc, cmp := false }
def Tryz.cti528 : TI := { k := .func, size := 1, bytes := 8, zero := .nilfunc, cmp := false }
def Tryz.cti529 : TI := { k := .func, size := 1, bytes := 8, zero := .nilfunc, cmp := false }
def Tryz.cti530 : TI := { k := .struct [(0, 184), (5, 3), (6, 3)], size := 7, bytes := 56, zero := .agg [.bool false, .int .i64 0, .int .i64 0, .int .i64 0, .int .i64 0, .int .i64 0, .int .i64 0], cmp := true }
def Tryz.cti531 : TI := { k := .struct [(0, 184), (5, 3), (6, 3)], size := 7, bytes := 56, zero := .agg [.bool false, .int .i64 0, .int .i64 0, .int .i64 0, .int .i64 0, .int .i64 0, .int .i64 0], cmp := true }
def Tryz.cti532 : TI := { k := .func, size := 1, bytes := 8, zero := .nilfunc, cmp := false }
def Tryz.cti533 : TI := { k := .func, size := 1, bytes := 8, zero := .nilfunc, cmp := false }
def Tryz.cti535 : TI := { k := .func, size := 1, bytes := 8, zero := .nilfunc, cmp := false }
def Tryz.cti536 : TI := { k := .func, size := 1, bytes := 8, zero := .nilfunc, cmp := false }
def Tryz.cti537 : TI := { k := .func, size := 1, bytes := 8, zero := .nilfunc, cmp := false }
def Tryz.cti538 : TI := { k := .func, size := 1, bytes := 8, zero := .nilfunc, cmp := false }
def Tryz.cti539 : TI := { k := .func, size := 1, bytes := 8, zero := .nilfunc, cmp := false }
def Tryz.cti540 : TI := { k := .func, size := 1, bytes := 8, zero := .nilfunc, cmp := false }
def Tryz.cti541 : TI := { k := .struct [(0, 184), (5, 4), (6, 3), (7, 3)], size := 8, bytes := 64, zero := .agg [.bool false, .int .i64 0, .int .i64 0, .int .i64 0, .int .i64 0, .bool false, .int .i64 0, .int .i64 0], cmp := true }
def Tryz.cti542 : TI := { k := .struct [(0, 184), (5, 4), (6, 3), (7, 3)], size := 8, bytes := 64, zero := .agg [.bool false, .int .i64 0, .int .i64 0, .int .i64 0, .int .i64 0, .bool false, .int .i64 0, .int .i64 0], cmp := true }
def Tryz.cti543 : TI := { k := .func, size := 1, bytes := 8, zero := .nilfunc, cmp := false }
def Tryz.cti544 : TI := { k := .func, size := 1, bytes := 8, zero := .nilfunc, cmp := false }
def Tryz.cti545 : TI := { k := .func, size := 1, bytes := 8, zero := .nilfunc, cmp := false }
def Tryz.cti547 : TI := { k := .func, size := 1, bytes := 8, zero := .nilfunc, cmp := false }
def Tryz.cti549 : TI := { k := .func, size := 1, bytes := 8, zero := .nilfunc, cmp := false }
def Tryz.cti550 : TI := { k := .func, size := 1, bytes := 8, zero := .nilfunc, cmp := false }
def Tryz.cti551 : TI := { k := .ptr, size := 1, bytes := 8, zero := .nilptr, cmp := false }
def Tryz.cti553 : TI := { k := .func, size := 1, bytes := 8, zero := .nilfunc, cmp := false }
def Tryz.cti554 : TI := { k := .func, size := 1, bytes := 8, zero := .nilfunc, cmp := false }
def Tryz.cti555 : TI := { k := .func, size := 1, bytes := 8, zero := .nilfunc, cmp := false }
def Tryz.cti556 : TI := { k := .func, size := 1, bytes := 8, zero := .nilfunc, cmp := false }
def Tryz.cti557 : TI := { k := .func, size := 1, bytes := 8, zero := .nilfunc, cmp := false }
def Tryz.cti558 : TI := { k := .func, size := 1, bytes := 8, zero := .nilfunc, cmp := false }
def Tryz.cti559 : TI := { k := .struct [(0, 17), (1, 17), (2, 17), (3, 9)], size := 4, bytes := 40, zero := .agg [.nilptr, .nilptr, .nilptr, .str []], cmp := false }
def Tryz.cti560 : TI := { k := .struct [(0, 17), (1, 17), (2, 17), (3, 9)], size := 4, bytes := 40, zero := .agg [.nilptr, .nilptr, .nilptr, .str []], cmp := false }
def Tryz.cti561 : TI := { k := .array 0 16, size := 0, bytes := 0, zero := .agg [], cmp := false }
def Tryz.cti564 : TI := { k := .int .u8, size := 1, bytes := 1, zero := .int .u8 0, cmp := true }
def Tryz.cti565 : TI := { k := .int .u8, size := 1, bytes := 1, zero := .int .u8 0, cmp := true }
def Tryz.cti566 : TI := { k := .func, size := 1, bytes := 8, zero := .nilfunc, cmp := false }
def Tryz.cti567 : TI := { k := .int .i32, size := 1, bytes := 4, zero := .int .i32 0, cmp := true }
def Tryz.cti568 : TI := { k := .int .i32, size := 1, bytes := 4, zero := .int .i32 0, cmp := true }
def Tryz.cti569 : TI := { k := .struct [(0, 12), (1, 12), (2, 375), (3, 564), (4, 5), (5, 5), (6, 565), (7, 566), (8, 518), (9, 567), (10, 568)], size := 11, bytes := 48, zero := .agg [.int .u64 0, .int .u64 0, .int .u32 0, .int .u8 0, .int .u8 0, .int .u8 0, .int .u8 0, .nilfunc, .nilptr, .int .i32 0, .int .i32 0], cmp := false }
def Tryz.cti570 : TI := { k := .struct [(0, 12), (1, 12), (2, 375), (3, 564), (4, 5), (5, 5), (6, 565), (7, 566), (8, 518), (9, 567), (10, 568)], size := 11, bytes := 48, zero := .agg [.int .u64 0, .int .u64 0, .int .u32 0, .int .u8 0, .int .u8 0, .int .u8 0, .int .u8 0, .nilfunc, .nilptr, .int .i32 0, .int .i32 0], cmp := false }
noncomputable def Tryz.ctypes_ : Tr TI := (.node 285 Tryz.cti285 (.node 144 Tryz.cti144 (.node 70 Tryz.cti70 (.node 36 Tryz.cti36 (.node 18 Tryz.cti18 (.node 8 Tryz.cti8 (.node 4 Tryz.cti4 (.node 2 Tryz.cti2 (.node 1 Tryz.cti1 .nil .nil) (.node 3 Tryz.cti3 .nil .nil)) (.node 6 Tryz.cti6 (.node 5 Tryz.cti5 .nil .nil) (.node 7 Tryz.cti7 .nil .nil))) (.node 12 Tryz.cti12 (.node 10 Tryz.cti10 (.node 9 Tryz.cti9 .nil .nil) (.node 11 Tryz.cti11 .nil .nil)) (.node 16 Tryz.cti16 (.node 15 Tryz.cti15 .nil .nil) (.node 17 Tryz.cti17 .nil .nil)))) (.node 26 Tryz.cti26 (.node 22 Tryz.cti22 (.node 20 Tryz.cti20 (.node 19 Tryz.cti19 .nil .nil) (.node 21 Tryz.cti21 .nil .nil)) (.node 24 Tryz.cti24 (.node 23 Tryz.cti23 .nil .nil) (.node 25 Tryz.cti25 .nil .nil))) (.node 31 Tryz.cti31 (.node 28 Tryz.cti28 (.node 27 Tryz.cti27 .nil .nil) (.node 30 Tryz.cti30 .nil .nil)) (.node 34 Tryz.cti34 (.node 33 Tryz.cti33 .nil .nil) (.node 35 Tryz.cti35 .nil .nil))))) (.node 53 Tryz.cti53 (.node 45 Tryz.cti45 (.node 41 Tryz.cti41 (.node 39 Tryz.cti39 (.node 38 Tryz.cti38 .nil .nil) (.node 40 Tryz.cti40 .nil .nil)) (.node 43 Tryz.cti43 (.node 42 Tryz.cti42 .nil .nil) (.node 44 Tryz.cti44 .nil .nil))) (.node 49 Tryz.cti49 (.node 47 Tryz.cti47 (.node 46 Tryz.cti46 .nil .nil) (.node 48 Tryz.cti48 .nil .nil)) (.node 51 Tryz.cti51 (.node 50 Tryz.cti50 .nil .nil) (.node 52 Tryz.cti52 .nil .nil)))) (.node 62 Tryz.cti62 (.node 58 Tryz.cti58 (.node 55 Tryz.cti55 (.node 54 Tryz.cti54 .nil .nil) (.node 56 Tryz.cti56 .nil .nil)) (.node 60 Tryz.cti60 (.node 59 Tryz.cti59 .nil .nil) (.node 61 Tryz.cti61 .nil .nil))) (.node 66 Tryz.cti66 (.node 64 Tryz.cti64 (.node 63 Tryz.cti63 .nil .nil) (.node 65 Tryz.cti65 .nil .nil)) (.node 68 Tryz.cti68 (.node 67 Tryz.cti67 .nil .nil) (.node 69 Tryz.cti69 .nil .nil)))))) (.node 105 Tryz.cti105 (.node 87 Tryz.cti87 (.node 78 Tryz.cti78 (.node 74 Tryz.cti74 (.node 72 Tryz.cti72 (.node 71 Tryz.cti71 .nil .nil) (.node 73 Tryz.cti73 .nil .nil)) (.node 76 Tryz.cti76 (.node 75 Tryz.cti75 .nil .nil) (.node 77 Tryz.cti77 .nil .nil))) (.node 82 Tryz.cti82 (.node 80 Tryz.cti80 (.node 79 Tryz.cti79 .nil .nil) (.node 81 Tryz.cti81 .nil .nil)) (.node 84 Tryz.cti84 (.node 83 Tryz.cti83 .nil .nil) (.node 86 Tryz.cti86 .nil .nil)))) (.node 95 Tryz.cti95 (.node 91 Tryz.cti91 (.node 89 Tryz.cti89 (.node 88 Tryz.cti88 .nil .nil) (.node 90 Tryz.cti90 .nil .nil)) (.node 93 Tryz.cti93 (.node 92 Tryz.cti92 .nil .nil) (.node 94 Tryz.cti94 .nil .nil))) (.node 101 Tryz.cti101 (.node 98 Tryz.cti98 (.node 96 Tryz.cti96 .nil .nil) (.node 100 Tryz.cti100 .nil .nil)) (.node 103 Tryz.cti103 (.node 102 Tryz.cti102 .nil .nil) (.node 104 Tryz.cti104 .nil .nil))))) (.node 126 Tryz.cti126 (.node 114 Tryz.cti114 (.node 109 Tryz.cti109 (.node 107 Tryz.cti107 (.node 106 Tryz.cti106 .nil .nil) (.node 108 Tryz.cti108 .nil .nil)) (.node 111 Tryz.cti111 (.node 110 Tryz.cti110 .nil .nil) (.node 112 Tryz.cti112 .nil .nil))) (.node 120 Tryz.cti120 (.node 117 Tryz.cti117 (.node 115 Tryz.cti115 .nil .nil) (.node 119 Tryz.cti119 .nil .nil)) (.node 123 Tryz.cti123 (.node 122 Tryz.cti122 .nil .nil) (.node 124 Tryz.cti124 .nil .nil)))) (.node 136 Tryz.cti136 (.node 131 Tryz.cti131 (.node 129 Tryz.cti129 (.node 127 Tryz.cti127 .nil .nil) (.node 130 Tryz.cti130 .nil .nil)) (.node 133 Tryz.cti133 (.node 132 Tryz.cti132 .nil .nil) (.node 134 Tryz.cti134 .nil .nil))) (.node 140 Tryz.cti140 (.node 138 Tryz.cti138 (.node 137 Tryz.cti137 .nil .nil) (.node 139 Tryz.cti139 .nil .nil)) (.node 142 Tryz.cti142 (.node 141 Tryz.cti141 .nil .nil) (.node 143 Tryz.cti143 .nil .nil))))))) (.node 213 Tryz.cti213 (.node 178 Tryz.cti178 (.node 162 Tryz.cti162 (.node 154 Tryz.cti154 (.node 148 Tryz.cti148 (.node 146 Tryz.cti146 (.node 145 Tryz.cti145 .nil .nil) (.node 147 Tryz.cti147 .nil .nil)) (.node 151 Tryz.cti151 (.node 149 Tryz.cti149 .nil .nil) (.node 152 Tryz.cti152 .nil .nil))) (.node 158 Tryz.cti158 (.node 156 Tryz.cti156 (.node 155 Tryz.cti155 .nil .nil) (.node 157 Tryz.cti157 .nil .nil)) (.node 160 Tryz.cti160 (.node 159 Tryz.cti159 .nil .nil) (.node 161 Tryz.cti161 .nil .nil)))) (.node 170 Tryz.cti170 (.node 166 Tryz.cti166 (.node 164 Tryz.cti164 (.node 163 Tryz.cti163 .nil .nil) (.node 165 Tryz.cti165 .nil .nil)) (.node 168 Tryz.cti168 (.node 167 Tryz.cti167 .nil .nil) (.node 169 Tryz.cti169 .nil .nil))) (.node 174 Tryz.cti174 (.node 172 Tryz.cti172 (.node 171 Tryz.cti171 .nil .nil) (.node 173 Tryz.cti173 .nil .nil)) (.node 176 Tryz.cti176 (.node 175 Tryz.cti175 .nil .nil) (.node 177 Tryz.cti177 .nil .nil))))) (.node 194 Tryz.cti194 (.node 186 Tryz.cti186 (.node 182 Tryz.cti182 (.node 180 Tryz.cti180 (.node 179 Tryz.cti179 .nil .nil) (.node 181 Tryz.cti181 .nil .nil)) (.node 184 Tryz.cti184 (.node 183 Tryz.cti183 .nil .nil) (.node 185 Tryz.cti185 .nil .nil))) (.node 190 Tryz.cti190 (.node 188 Tryz.cti188 (.node 187 Tryz.cti187 .nil .nil) (.node 189 Tryz.cti189 .nil .nil)) (.node 192 Tryz.cti192 (.node 191 Tryz.cti191 .nil .nil) (.node 193 Tryz.cti193 .nil .nil)))) (.node 202 Tryz.cti202 (.node 198 Tryz.cti198 (.node 196 Tryz.cti196 (.node 195 Tryz.cti195 .nil .nil) (.node 197 Tryz.cti197 .nil .nil)) (.node 200 Tryz.cti200 (.node 199 Tryz.cti199 .nil .nil) (.node 201 Tryz.cti201 .nil .nil))) (.node 207 Tryz.cti207 (.node 204 Tryz.cti204 (.node 203 Tryz.cti203 .nil .nil) (.node 206 Tryz.cti206 .nil .nil)) (.node 210 Tryz.cti210 (.node 208 Tryz.cti208 .nil .nil) (.node 212 Tryz.cti212 .nil .nil)))))) (.node 252 Tryz.cti252 (.node 233 Tryz.cti233 (.node 224 Tryz.cti224 (.node 218 Tryz.cti218 (.node 216 Tryz.cti216 (.node 215 Tryz.cti215 .nil .nil) (.node 217 Tryz.cti217 .nil .nil)) (.node 221 Tryz.cti221 (.node 219 Tryz.cti219 .nil .nil) (.node 222 Tryz.cti222 .nil .nil))) (.node 228 Tryz.cti228 (.node 226 Tryz.cti226 (.node 225 Tryz.cti225 .nil .nil) (.node 227 Tryz.cti227 .nil .nil)) (.node 230 Tryz.cti230 (.node 229 Tryz.cti229 .nil .nil) (.node 232 Tryz.cti232 .nil .nil)))) (.node 244 Tryz.cti244 (.node 239 Tryz.cti239 (.node 236 Tryz.cti236 (.node 234 Tryz.cti234 .nil .nil) (.node 238 Tryz.cti238 .nil .nil)) (.node 241 Tryz.cti241 (.node 240 Tryz.cti240 .nil .nil) (.node 243 Tryz.cti243 .nil .nil))) (.node 248 Tryz.cti248 (.node 246 Tryz.cti246 (.node 245 Tryz.cti245 .nil .nil) (.node 247 Tryz.cti247 .nil .nil)) (.node 250 Tryz.cti250 (.node 249 Tryz.cti249 .nil .nil) (.node 251 Tryz.cti251 .nil .nil))))) (.node 270 Tryz.cti270 (.node 262 Tryz.cti262 (.node 258 Tryz.cti258 (.node 255 Tryz.cti255 (.node 253 Tryz.cti253 .nil .nil) (.node 256 Tryz.cti256 .nil .nil)) (.node 260 Tryz.cti260 (.node 259 Tryz.cti259 .nil .nil) (.node 261 Tryz.cti261 .nil .nil))) (.node 266 Tryz.cti266 (.node 264 Tryz.cti264 (.node 263 Tryz.cti263 .nil .nil) (.node 265 Tryz.cti265 .nil .nil)) (.node 268 Tryz.cti268 (.node 267 Tryz.cti267 .nil .nil) (.node 269 Tryz.cti269 .nil .nil)))) (.node 278 Tryz.cti278 (.node 274 Tryz.cti274 (.node 272 Tryz.cti272 (.node 271 Tryz.cti271 .nil .nil) (.node 273 Tryz.cti273 .nil .nil)) (.node 276 Tryz.cti276 (.node 275 Tryz.cti275 .nil .nil) (.node 277 Tryz.cti277 .nil .nil))) (.node 282 Tryz.cti282 (.node 280 Tryz.cti280 (.node 279 Tryz.cti279 .nil .nil) (.node 281 Tryz.cti281 .nil .nil)) (.node 284 Tryz.cti284 (.node 283 Tryz.cti283 .nil .nil) .nil))))))) (.node 426 Tryz.cti426 (.node 356 Tryz.cti356 (.node 321 Tryz.cti321 (.node 304 Tryz.cti304 (.node 294 Tryz.cti294 (.node 290 Tryz.cti290 (.node 288 Tryz.cti288 (.node 287 Tryz.cti287 .nil .nil) (.node 289 Tryz.cti289 .nil .nil)) (.node 292 Tryz.cti292 (.node 291 Tryz.cti291 .nil .nil) (.node 293 Tryz.cti293 .nil .nil))) (.node 299 Tryz.cti299 (.node 297 Tryz.cti297 (.node 295 Tryz.cti295 .nil .nil) (.node 298 Tryz.cti298 .nil .nil)) (.node 301 Tryz.cti301 (.node 300 Tryz.cti300 .nil .nil) (.node 302 Tryz.cti302 .nil .nil)))) (.node 313 Tryz.cti313 (.node 308 Tryz.cti308 (.node 306 Tryz.cti306 (.node 305 Tryz.cti305 .nil .nil) (.node 307 Tryz.cti307 .nil .nil)) (.node 310 Tryz.cti310 (.node 309 Tryz.cti309 .nil .nil) (.node 311 Tryz.cti311 .nil .nil))) (.node 317 Tryz.cti317 (.node 315 Tryz.cti315 (.node 314 Tryz.cti314 .nil .nil) (.node 316 Tryz.cti316 .nil .nil)) (.node 319 Tryz.cti319 (.node 318 Tryz.cti318 .nil .nil) (.node 320 Tryz.cti320 .nil .nil))))) (.node 339 Tryz.cti339 (.node 330 Tryz.cti330 (.node 325 Tryz.cti325 (.node 323 Tryz.cti323 (.node 322 Tryz.cti322 .nil .nil) (.node 324 Tryz.cti324 .nil .nil)) (.node 327 Tryz.cti327 (.node 326 Tryz.cti326 .nil .nil) (.node 328 Tryz.cti328 .nil .nil))) (.node 335 Tryz.cti335 (.node 332 Tryz.cti332 (.node 331 Tryz.cti331 .nil .nil) (.node 333 Tryz.cti333 .nil .nil)) (.node 337 Tryz.cti337 (.node 336 Tryz.cti336 .nil .nil) (.node 338 Tryz.cti338 .nil .nil)))) (.node 347 Tryz.cti347 (.node 343 Tryz.cti343 (.node 341 Tryz.cti341 (.node 340 Tryz.cti340 .nil .nil) (.node 342 Tryz.cti342 .nil .nil)) (.node 345 Tryz.cti345 (.node 344 Tryz.cti344 .nil .nil) (.node 346 Tryz.cti346 .nil .nil))) (.node 351 Tryz.cti351 (.node 349 Tryz.cti349 (.node 348 Tryz.cti348 .nil .nil) (.node 350 Tryz.cti350 .nil .nil)) (.node 353 Tryz.cti353 (.node 352 Tryz.cti352 .nil .nil) (.node 354 Tryz.cti354 .nil .nil)))))) (.node 392 Tryz.cti392 (.node 375 Tryz.cti375 (.node 365 Tryz.cti365 (.node 361 Tryz.cti361 (.node 359 Tryz.cti359 (.node 358 Tryz.cti358 .nil .nil) (.node 360 Tryz.cti360 .nil .nil)) (.node 363 Tryz.cti363 (.node 362 Tryz.cti362 .nil .nil) (.node 364 Tryz.cti364 .nil .nil))) (.node 371 Tryz.cti371 (.node 367 Tryz.cti367 (.node 366 Tryz.cti366 .nil .nil) (.node 369 Tryz.cti369 .nil .nil)) (.node 373 Tryz.cti373 (.node 372 Tryz.cti372 .nil .nil) (.node 374 Tryz.cti374 .nil .nil)))) (.node 384 Tryz.cti384 (.node 379 Tryz.cti379 (.node 377 Tryz.cti377 (.node 376 Tryz.cti376 .nil .nil) (.node 378 Tryz.cti378 .nil .nil)) (.node 382 Tryz.cti382 (.node 381 Tryz.cti381 .nil .nil) (.node 383 Tryz.cti383 .nil .nil))) (.node 388 Tryz.cti388 (.node 386 Tryz.cti386 (.node 385 Tryz.cti385 .nil .nil) (.node 387 Tryz.cti387 .nil .nil)) (.node 390 Tryz.cti390 (.node 389 Tryz.cti389 .nil .nil) (.node 391 Tryz.cti391 .nil .nil))))) (.node 409 Tryz.cti409 (.node 400 Tryz.cti400 (.node 396 Tryz.cti396 (.node 394 Tryz.cti394 (.node 393 Tryz.cti393 .nil .nil) (.node 395 Tryz.cti395 .nil .nil)) (.node 398 Tryz.cti398 (.node 397 Tryz.cti397 .nil .nil) (.node 399 Tryz.cti399 .nil .nil))) (.node 404 Tryz.cti404 (.node 402 Tryz.cti402 (.node 401 Tryz.cti401 .nil .nil) (.node 403 Tryz.cti403 .nil .nil)) (.node 406 Tryz.cti406 (.node 405 Tryz.cti405 .nil .nil) (.node 408 Tryz.cti408 .nil .nil)))) (.node 418 Tryz.cti418 (.node 414 Tryz.cti414 (.node 411 Tryz.cti411 (.node 410 Tryz.cti410 .nil .nil) (.node 413 Tryz.cti413 .nil .nil)) (.node 416 Tryz.cti416 (.node 415 Tryz.cti415 .nil .nil) (.node 417 Tryz.cti417 .nil .nil))) (.node 423 Tryz.cti423 (.node 421 Tryz.cti421 (.node 419 Tryz.cti419 .nil .nil) (.node 422 Tryz.cti422 .nil .nil)) (.node 425 Tryz.cti425 (.node 424 Tryz.cti424 .nil .nil) .nil)))))) (.node 498 Tryz.cti498 (.node 461 Tryz.cti461 (.node 443 Tryz.cti443 (.node 434 Tryz.cti434 (.node 430 Tryz.cti430 (.node 428 Tryz.cti428 (.node 427 Tryz.cti427 .nil .nil) (.node 429 Tryz.cti429 .nil .nil)) (.node 432 Tryz.cti432 (.node 431 Tryz.cti431 .nil .nil) (.node 433 Tryz.cti433 .nil .nil))) (.node 438 Tryz.cti438 (.node 436 Tryz.cti436 (.node 435 Tryz.cti435 .nil .nil) (.node 437 Tryz.cti437 .nil .nil)) (.node 440 Tryz.cti440 (.node 439 Tryz.cti439 .nil .nil) (.node 441 Tryz.cti441 .nil .nil)))) (.node 452 Tryz.cti452 (.node 447 Tryz.cti447 (.node 445 Tryz.cti445 (.node 444 Tryz.cti444 .nil .nil) (.node 446 Tryz.cti446 .nil .nil)) (.node 449 Tryz.cti449 (.node 448 Tryz.cti448 .nil .nil) (.node 450 Tryz.cti450 .nil .nil))) (.node 457 Tryz.cti457 (.node 454 Tryz.cti454 (.node 453 Tryz.cti453 .nil .nil) (.node 456 Tryz.cti456 .nil .nil)) (.node 459 Tryz.cti459 (.node 458 Tryz.cti458 .nil .nil) (.node 460 Tryz.cti460 .nil .nil))))) (.node 480 Tryz.cti480 (.node 471 Tryz.cti471 (.node 466 Tryz.cti466 (.node 464 Tryz.cti464 (.node 462 Tryz.cti462 .nil .nil) (.node 465 Tryz.cti465 .nil .nil)) (.node 468 Tryz.cti468 (.node 467 Tryz.cti467 .nil .nil) (.node 470 Tryz.cti470 .nil .nil))) (.node 476 Tryz.cti476 (.node 473 Tryz.cti473 (.node 472 Tryz.cti472 .nil .nil) (.node 475 Tryz.cti475 .nil .nil)) (.node 478 Tryz.cti478 (.node 477 Tryz.cti477 .nil .nil) (.node 479 Tryz.cti479 .nil .nil)))) (.node 490 Tryz.cti490 (.node 484 Tryz.cti484 (.node 482 Tryz.cti482 (.node 481 Tryz.cti481 .nil .nil) (.node 483 Tryz.cti483 .nil .nil)) (.node 487 Tryz.cti487 (.node 486 Tryz.cti486 .nil .nil) (.node 489 Tryz.cti489 .nil .nil))) (.node 494 Tryz.cti494 (.node 492 Tryz.cti492 (.node 491 Tryz.cti491 .nil .nil) (.node 493 Tryz.cti493 .nil .nil)) (.node 496 Tryz.cti496 (.node 495 Tryz.cti495 .nil .nil) (.node 497 Tryz.cti497 .nil .nil)))))) (.node 535 Tryz.cti535 (.node 518 Tryz.cti518 (.node 506 Tryz.cti506 (.node 502 Tryz.cti502 (.node 500 Tryz.cti500 (.node 499 Tryz.cti499 .nil .nil) (.node 501 Tryz.cti501 .nil .nil)) (.node 504 Tryz.cti504 (.node 503 Tryz.cti503 .nil .nil) (.node 505 Tryz.cti505 .nil .nil))) (.node 512 Tryz.cti512 (.node 508 Tryz.cti508 (.node 507 Tryz.cti507 .nil .nil) (.node 510 Tryz.cti510 .nil .nil)) (.node 515 Tryz.cti515 (.node 513 Tryz.cti513 .nil .nil) (.node 517 Tryz.cti517 .nil .nil)))) (.node 526 Tryz.cti526 (.node 522 Tryz.cti522 (.node 520 Tryz.cti520 (.node 519 Tryz.cti519 .nil .nil) (.node 521 Tryz.cti521 .nil .nil)) (.node 524 Tryz.cti524 (.node 523 Tryz.cti523 .nil .nil) (.node 525 Tryz.cti525 .nil .nil))) (.node 530 Tryz.cti530 (.node 528 Tryz.cti528 (.node 527 Tryz.cti527 .nil .nil) (.node 529 Tryz.cti529 .nil .nil)) (.node 532 Tryz.cti532 (.node 531 Tryz.cti531 .nil .nil) (.node 533 Tryz.cti533 .nil .nil))))) (.node 554 Tryz.cti554 (.node 543 Tryz.cti543 (.node 539 Tryz.cti539 (.node 537 Tryz.cti537 (.node 536 Tryz.cti536 .nil .nil) (.node 538 Tryz.cti538 .nil .nil)) (.node 541 Tryz.cti541 (.node 540 Tryz.cti540 .nil .nil) (.node 542 Tryz.cti542 .nil .nil))) (.node 549 Tryz.cti549 (.node 545 Tryz.cti545 (.node 544 Tryz.cti544 .nil .nil) (.node 547 Tryz.cti547 .nil .nil)) (.node 551 Tryz.cti551 (.node 550 Tryz.cti550 .nil .nil) (.node 553 Tryz.cti553 .nil .nil)))) (.node 564 Tryz.cti564 (.node 558 Tryz.cti558 (.node 556 Tryz.cti556 (.node 555 Tryz.cti555 .nil .nil) (.node 557 Tryz.cti557 .nil .nil)) (.node 560 Tryz.cti560 (.node 559 Tryz.cti559 .nil .nil) (.node 561 Tryz.cti561 .nil .nil))) (.node 568 Tryz.cti568 (.node 566 Tryz.cti566 (.node 565 Tryz.cti565 .nil .nil) (.node 567 Tryz.cti567 .nil .nil)) (.node 570 Tryz.cti570 (.node 569 Tryz.cti569 .nil .nil) .nil))))))))
noncomputable def Tryz.cfuncs_ : Tr Func := (.node 318 Tryz.f318 (.node 243 Tryz.f243 .nil .nil) (.node 377 Tryz.f377 .nil .nil))
noncomputable def Tryz.cpure_ : Tr Unit := (.node 318 () (.node 243 () .nil .nil) .nil)
noncomputable def Tryz.cobjs_ : Tr Unit := .nil
theorem Tryz.ctypes_ok : Tryz.ctypes_.all (typeB Tryz.prog) = true := by kernel_rfl
theorem Tryz.cfuncs_ok : Tryz.cfuncs_.AllP fun f fn => Tryz.prog.funcs[f]? = some fn ∧ fn.body.isSome = true ∧ fn.name ≠ "runtime.NumGoroutine" := by
  exact ⟨⟨Tryz.func318, rfl, of_decide_eq_true (by kernel_rfl)⟩, ⟨⟨Tryz.func243, rfl, of_decide_eq_true (by kernel_rfl)⟩, trivial, trivial⟩, ⟨⟨Tryz.func377, rfl, of_decide_eq_true (by kernel_rfl)⟩, trivial, trivial⟩⟩
theorem Tryz.cmixed : Tryz.prog.follows .mixedOrders = true := by kernel_rfl
end Go.Proofs.YtedhpikmkoemhaaGreat
