/- The tables of this seat's program: written by a program of ours. -/
import Derived.Test.YtanpcjopgcpooaaEg
import Derived.Test.YtanpcjopgcpooaaProg
set_option maxRecDepth 100000
namespace Go.Proofs.Ytanpcjopgcpooaa
open Go.Sx

def Try.ati1 : TI := { k := .func, size := 1, bytes := 8, zero := .nilfunc, cmp := false }
def Try.ati2 : TI := { k := .int .i64, size := 1, bytes := 8, zero := .int .i64 0, cmp := true }
def Try.ati3 : TI := { k := .int .i64, size := 1, bytes := 8, zero := .int .i64 0, cmp := true }
def Try.ati4 : TI := { k := .bool, size := 1, bytes := 1, zero := .bool false, cmp := true }
def Try.ati5 : TI := { k := .int .u8, size := 1, bytes := 1, zero := .int .u8 0, cmp := true }
def Try.ati6 : TI := { k := .int .u8, size := 1, bytes := 1, zero := .int .u8 0, cmp := true }
def Try.ati7 : TI := { k := .struct [(0, 2), (1, 3), (2, 4), (3, 6)], size := 4, bytes := 24, zero := .agg [.int .i64 0, .int .i64 0, .bool false, .int .u8 0], cmp := true }
def Try.ati8 : TI := { k := .struct [(0, 2), (1, 3), (2, 4), (3, 6)], size := 4, bytes := 24, zero := .agg [.int .i64 0, .int .i64 0, .bool false, .int .u8 0], cmp := true }
def Try.ati9 : TI := { k := .string, size := 1, bytes := 16, zero := .str [], cmp := true }
def Try.ati10 : TI := { k := .string, size := 1, bytes := 16, zero := .str [], cmp := true }
def Try.ati11 : TI := { k := .string, size := 1, bytes := 16, zero := .str [], cmp := true }
def Try.ati12 : TI := { k := .int .u64, size := 1, bytes := 8, zero := .int .u64 0, cmp := true }
def Try.ati15 : TI := { k := .ptr, size := 1, bytes := 8, zero := .nilptr, cmp := false }
def Try.ati16 : TI := { k := .ptr, size := 1, bytes := 8, zero := .nilptr, cmp := false }
def Try.ati17 : TI := { k := .ptr, size := 1, bytes := 8, zero := .nilptr, cmp := false }
def Try.ati18 : TI := { k := .struct [(0, 17)], size := 1, bytes := 8, zero := .agg [.nilptr], cmp := false }
def Try.ati19 : TI := { k := .struct [(0, 17)], size := 1, bytes := 8, zero := .agg [.nilptr], cmp := false }
def Try.ati20 : TI := { k := .iface, size := 1, bytes := 16, zero := .niliface, cmp := false }
def Try.ati21 : TI := { k := .int .i32, size := 1, bytes := 4, zero := .int .i32 0, cmp := true }
def Try.ati22 : TI := { k := .func, size := 1, bytes := 8, zero := .nilfunc, cmp := false }
def Try.ati23 : TI := { k := .struct [(0, 3), (1, 3), (2, 3)], size := 3, bytes := 24, zero := .agg [.int .i64 0, .int .i64 0, .int .i64 0], cmp := true }
def Try.ati24 : TI := { k := .struct [(0, 3), (1, 3), (2, 3)], size := 3, bytes := 24, zero := .agg [.int .i64 0, .int .i64 0, .int .i64 0], cmp := true }
def Try.ati25 : TI := { k := .struct [(0, 24), (3, 3), (4, 3), (5, 3), (6, 3), (7, 3), (8, 3), (9, 3), (10, 3)], size := 11, bytes := 88, zero := .agg [.int .i64 0, .int .i64 0, .int .i64 0, .int .i64 0, .int .i64 0, .int .i64 0, .int .i64 0, .int .i64 0, .int .i64 0, .int .i64 0, .int .i64 0], cmp := true }
def Try.ati26 : TI := { k := .struct [(0, 24), (3, 3), (4, 3), (5, 3), (6, 3), (7, 3), (8, 3), (9, 3), (10, 3)], size := 11, bytes := 88, zero := .agg [.int .i64 0, .int .i64 0, .int .i64 0, .int .i64 0, .int .i64 0, .int .i64 0, .int .i64 0, .int .i64 0, .int .i64 0, .int .i64 0, .int .i64 0], cmp := true }
def Try.ati27 : TI := { k := .slice 48, size := 1, bytes := 24, zero := .nils, cmp := false }
def Try.ati28 : TI := { k := .struct [(0, 26), (11, 27)], size := 12, bytes := 112, zero := .agg [.int .i64 0, .int .i64 0, .int .i64 0, .int .i64 0, .int .i64 0, .int .i64 0, .int .i64 0, .int .i64 0, .int .i64 0, .int .i64 0, .int .i64 0, .nils], cmp := false }
def Try.ati29 : TI := { k := .struct [(0, 26), (11, 27)], size := 12, bytes := 112, zero := .agg [.int .i64 0, .int .i64 0, .int .i64 0, .int .i64 0, .int .i64 0, .int .i64 0, .int .i64 0, .int .i64 0, .int .i64 0, .int .i64 0, .int .i64 0, .nils], cmp := false }
def Try.ati30 : TI := { k := .func, size := 1, bytes := 8, zero := .nilfunc, cmp := false }
def Try.ati31 : TI := { k := .func, size := 1, bytes := 8, zero := .nilfunc, cmp := false }
def Try.ati32 : TI := { k := .func, size := 1, bytes := 8, zero := .nilfunc, cmp := false }
def Try.ati33 : TI := { k := .func, size := 1, bytes := 8, zero := .nilfunc, cmp := false }
def Try.ati34 : TI := { k := .slice 29, size := 1, bytes := 24, zero := .nils, cmp := false }
def Try.ati35 : TI := { k := .slice 9, size := 1, bytes := 24, zero := .nils, cmp := false }
def Try.ati36 : TI := { k := .int .i64, size := 1, bytes := 8, zero := .int .i64 0, cmp := true }
def Try.ati38 : TI := { k := .func, size := 1, bytes := 8, zero := .nilfunc, cmp := false }
def Try.ati40 : TI := { k := .func, size := 1, bytes := 8, zero := .nilfunc, cmp := false }
def Try.ati41 : TI := { k := .func, size := 1, bytes := 8, zero := .nilfunc, cmp := false }
def Try.ati42 : TI := { k := .func, size := 1, bytes := 8, zero := .nilfunc, cmp := false }
def Try.ati43 : TI := { k := .func, size := 1, bytes := 8, zero := .nilfunc, cmp := false }
def Try.ati44 : TI := { k := .int .u64, size := 1, bytes := 8, zero := .int .u64 0, cmp := true }
def Try.ati45 : TI := { k := .struct [(0, 44), (1, 3), (2, 3)], size := 3, bytes := 24, zero := .agg [.int .u64 0, .int .i64 0, .int .i64 0], cmp := true }
def Try.ati46 : TI := { k := .struct [(0, 44), (1, 3), (2, 3)], size := 3, bytes := 24, zero := .agg [.int .u64 0, .int .i64 0, .int .i64 0], cmp := true }
def Try.ati47 : TI := { k := .struct [(0, 5), (1, 3), (2, 3), (3, 3), (4, 3), (5, 4), (6, 9), (7, 46), (10, 46)], size := 13, bytes := 112, zero := .agg [.int .u8 0, .int .i64 0, .int .i64 0, .int .i64 0, .int .i64 0, .bool false, .str [], .int .u64 0, .int .i64 0, .int .i64 0, .int .u64 0, .int .i64 0, .int .i64 0], cmp := true }
def Try.ati48 : TI := { k := .struct [(0, 5), (1, 3), (2, 3), (3, 3), (4, 3), (5, 4), (6, 9), (7, 46), (10, 46)], size := 13, bytes := 112, zero := .agg [.int .u8 0, .int .i64 0, .int .i64 0, .int .i64 0, .int .i64 0, .bool false, .str [], .int .u64 0, .int .i64 0, .int .i64 0, .int .u64 0, .int .i64 0, .int .i64 0], cmp := true }
def Try.ati49 : TI := { k := .func, size := 1, bytes := 8, zero := .nilfunc, cmp := false }
def Try.ati50 : TI := { k := .func, size := 1, bytes := 8, zero := .nilfunc, cmp := false }
def Try.ati51 : TI := { k := .slice 65, size := 1, bytes := 24, zero := .nils, cmp := false }
def Try.ati52 : TI := { k := .func, size := 1, bytes := 8, zero := .nilfunc, cmp := false }
def Try.ati53 : TI := { k := .func, size := 1, bytes := 8, zero := .nilfunc, cmp := false }
def Try.ati54 : TI := { k := .struct [(0, 3), (1, 3), (2, 3)], size := 3, bytes := 24, zero := .agg [.int .i64 0, .int .i64 0, .int .i64 0], cmp := true }
def Try.ati55 : TI := { k := .struct [(0, 3), (1, 3), (2, 3)], size := 3, bytes := 24, zero := .agg [.int .i64 0, .int .i64 0, .int .i64 0], cmp := true }
def Try.ati56 : TI := { k := .struct [(0, 3), (1, 3), (2, 55), (5, 4), (6, 4), (7, 4), (8, 3)], size := 9, bytes := 56, zero := .agg [.int .i64 0, .int .i64 0, .int .i64 0, .int .i64 0, .int .i64 0, .bool false, .bool false, .bool false, .int .i64 0], cmp := true }
def Try.ati57 : TI := { k := .struct [(0, 3), (1, 3), (2, 55), (5, 4), (6, 4), (7, 4), (8, 3)], size := 9, bytes := 56, zero := .agg [.int .i64 0, .int .i64 0, .int .i64 0, .int .i64 0, .int .i64 0, .bool false, .bool false, .bool false, .int .i64 0], cmp := true }
def Try.ati58 : TI := { k := .slice 73, size := 1, bytes := 24, zero := .nils, cmp := false }
def Try.ati59 : TI := { k := .struct [(0, 3), (1, 3), (2, 3), (3, 3), (4, 58)], size := 5, bytes := 56, zero := .agg [.int .i64 0, .int .i64 0, .int .i64 0, .int .i64 0, .nils], cmp := false }
def Try.ati60 : TI := { k := .struct [(0, 3), (1, 3), (2, 3), (3, 3), (4, 58)], size := 5, bytes := 56, zero := .agg [.int .i64 0, .int .i64 0, .int .i64 0, .int .i64 0, .nils], cmp := false }
def Try.ati61 : TI := { k := .slice 57, size := 1, bytes := 24, zero := .nils, cmp := false }
def Try.ati62 : TI := { k := .slice 3, size := 1, bytes := 24, zero := .nils, cmp := false }
def Try.ati63 : TI := { k := .slice 174, size := 1, bytes := 24, zero := .nils, cmp := false }
def Try.ati64 : TI := { k := .struct [(0, 3), (1, 4), (2, 4), (3, 4), (4, 60), (9, 61), (10, 62), (11, 3), (12, 63), (13, 63)], size := 14, bytes := 176, zero := .agg [.int .i64 0, .bool false, .bool false, .bool false, .int .i64 0, .int .i64 0, .int .i64 0, .int .i64 0, .nils, .nils, .nils, .int .i64 0, .nils, .nils], cmp := false }
def Try.ati65 : TI := { k := .struct [(0, 3), (1, 4), (2, 4), (3, 4), (4, 60), (9, 61), (10, 62), (11, 3), (12, 63), (13, 63)], size := 14, bytes := 176, zero := .agg [.int .i64 0, .bool false, .bool false, .bool false, .int .i64 0, .int .i64 0, .int .i64 0, .int .i64 0, .nils, .nils, .nils, .int .i64 0, .nils, .nils], cmp := false }
def Try.ati66 : TI := { k := .func, size := 1, bytes := 8, zero := .nilfunc, cmp := false }
def Try.ati67 : TI := { k := .func, size := 1, bytes := 8, zero := .nilfunc, cmp := false }
def Try.ati68 : TI := { k := .slice 118, size := 1, bytes := 24, zero := .nils, cmp := false }
def Try.ati69 : TI := { k := .struct [(0, 3), (1, 24), (4, 62), (5, 68)], size := 6, bytes := 80, zero := .agg [.int .i64 0, .int .i64 0, .int .i64 0, .int .i64 0, .nils, .nils], cmp := false }
def Try.ati70 : TI := { k := .struct [(0, 3), (1, 24), (4, 62), (5, 68)], size := 6, bytes := 80, zero := .agg [.int .i64 0, .int .i64 0, .int .i64 0, .int .i64 0, .nils, .nils], cmp := false }
def Try.ati71 : TI := { k := .slice 76, size := 1, bytes := 24, zero := .nils, cmp := false }
def Try.ati72 : TI := { k := .struct [(0, 70), (6, 3), (7, 3), (8, 4), (9, 71)], size := 10, bytes := 128, zero := .agg [.int .i64 0, .int .i64 0, .int .i64 0, .int .i64 0, .nils, .nils, .int .i64 0, .int .i64 0, .bool false, .nils], cmp := false }
def Try.ati73 : TI := { k := .struct [(0, 70), (6, 3), (7, 3), (8, 4), (9, 71)], size := 10, bytes := 128, zero := .agg [.int .i64 0, .int .i64 0, .int .i64 0, .int .i64 0, .nils, .nils, .int .i64 0, .int .i64 0, .bool false, .nils], cmp := false }
def Try.ati74 : TI := { k := .func, size := 1, bytes := 8, zero := .nilfunc, cmp := false }
def Try.ati75 : TI := { k := .struct [(0, 5), (1, 3), (2, 3), (3, 3), (4, 3), (5, 3), (6, 3), (7, 62)], size := 8, bytes := 80, zero := .agg [.int .u8 0, .int .i64 0, .int .i64 0, .int .i64 0, .int .i64 0, .int .i64 0, .int .i64 0, .nils], cmp := false }
def Try.ati76 : TI := { k := .struct [(0, 5), (1, 3), (2, 3), (3, 3), (4, 3), (5, 3), (6, 3), (7, 62)], size := 8, bytes := 80, zero := .agg [.int .u8 0, .int .i64 0, .int .i64 0, .int .i64 0, .int .i64 0, .int .i64 0, .int .i64 0, .nils], cmp := false }
def Try.ati77 : TI := { k := .func, size := 1, bytes := 8, zero := .nilfunc, cmp := false }
def Try.ati78 : TI := { k := .func, size := 1, bytes := 8, zero := .nilfunc, cmp := false }
def Try.ati79 : TI := { k := .func, size := 1, bytes := 8, zero := .nilfunc, cmp := false }
def Try.ati80 : TI := { k := .ptr, size := 1, bytes := 8, zero := .nilptr, cmp := false }
def Try.ati81 : TI := { k := .struct [(0, 9)], size := 1, bytes := 16, zero := .agg [.str []], cmp := true }
def Try.ati82 : TI := { k := .struct [(0, 9)], size := 1, bytes := 16, zero := .agg [.str []], cmp := true }
def Try.ati83 : TI := { k := .func, size := 1, bytes := 8, zero := .nilfunc, cmp := false }
def Try.ati84 : TI := { k := .func, size := 1, bytes := 8, zero := .nilfunc, cmp := false }
def Try.ati85 : TI := { k := .ptr, size := 1, bytes := 8, zero := .nilptr, cmp := false }
def Try.ati86 : TI := { k := .struct [(0, 9)], size := 1, bytes := 16, zero := .agg [.str []], cmp := true }
def Try.ati87 : TI := { k := .struct [(0, 9)], size := 1, bytes := 16, zero := .agg [.str []], cmp := true }
def Try.ati88 : TI := { k := .func, size := 1, bytes := 8, zero := .nilfunc, cmp := false }
def Try.ati89 : TI := { k := .func, size := 1, bytes := 8, zero := .nilfunc, cmp := false }
def Try.ati90 : TI := { k := .func, size := 1, bytes := 8, zero := .nilfunc, cmp := false }
def Try.ati91 : TI := { k := .slice 5, size := 1, bytes := 24, zero := .nils, cmp := false }
def Try.ati92 : TI := { k := .slice 95, size := 1, bytes := 24, zero := .nils, cmp := false }
def Try.ati93 : TI := { k := .func, size := 1, bytes := 8, zero := .nilfunc, cmp := false }
def Try.ati94 : TI := { k := .ptr, size := 1, bytes := 8, zero := .nilptr, cmp := false }
def Try.ati95 : TI := { k := .ptr, size := 1, bytes := 8, zero := .nilptr, cmp := false }
def Try.ati96 : TI := { k := .func, size := 1, bytes := 8, zero := .nilfunc, cmp := false }
def Try.ati97 : TI := { k := .func, size := 1, bytes := 8, zero := .nilfunc, cmp := false }
def Try.ati98 : TI := { k := .ptr, size := 1, bytes := 8, zero := .nilptr, cmp := false }
def Try.ati99 : TI := { k := .struct [(0, 9), (1, 4)], size := 2, bytes := 24, zero := .agg [.str [], .bool false], cmp := true }
def Try.ati100 : TI := { k := .struct [(0, 9), (1, 4)], size := 2, bytes := 24, zero := .agg [.str [], .bool false], cmp := true }
def Try.ati101 : TI := { k := .func, size := 1, bytes := 8, zero := .nilfunc, cmp := false }
def Try.ati102 : TI := { k := .func, size := 1, bytes := 8, zero := .nilfunc, cmp := false }
def Try.ati103 : TI := { k := .func, size := 1, bytes := 8, zero := .nilfunc, cmp := false }
def Try.ati104 : TI := { k := .func, size := 1, bytes := 8, zero := .nilfunc, cmp := false }
def Try.ati105 : TI := { k := .func, size := 1, bytes := 8, zero := .nilfunc, cmp := false }
def Try.ati106 : TI := { k := .map 109 4, size := 1, bytes := 8, zero := .nilmap, cmp := false }
def Try.ati107 : TI := { k := .map 55 4, size := 1, bytes := 8, zero := .nilmap, cmp := false }
def Try.ati108 : TI := { k := .struct [(0, 3), (1, 3)], size := 2, bytes := 16, zero := .agg [.int .i64 0, .int .i64 0], cmp := true }
def Try.ati109 : TI := { k := .struct [(0, 3), (1, 3)], size := 2, bytes := 16, zero := .agg [.int .i64 0, .int .i64 0], cmp := true }
def Try.ati110 : TI := { k := .func, size := 1, bytes := 8, zero := .nilfunc, cmp := false }
def Try.ati111 : TI := { k := .func, size := 1, bytes := 8, zero := .nilfunc, cmp := false }
def Try.ati112 : TI := { k := .func, size := 1, bytes := 8, zero := .nilfunc, cmp := false }
def Try.ati113 : TI := { k := .func, size := 1, bytes := 8, zero := .nilfunc, cmp := false }
def Try.ati114 : TI := { k := .func, size := 1, bytes := 8, zero := .nilfunc, cmp := false }
def Try.ati115 : TI := { k := .struct [(0, 4), (1, 3), (2, 3), (3, 3), (4, 3)], size := 5, bytes := 40, zero := .agg [.bool false, .int .i64 0, .int .i64 0, .int .i64 0, .int .i64 0], cmp := true }
def Try.ati116 : TI := { k := .struct [(0, 4), (1, 3), (2, 3), (3, 3), (4, 3)], size := 5, bytes := 40, zero := .agg [.bool false, .int .i64 0, .int .i64 0, .int .i64 0, .int .i64 0], cmp := true }
def Try.ati117 : TI := { k := .struct [(0, 116), (5, 3)], size := 6, bytes := 48, zero := .agg [.bool false, .int .i64 0, .int .i64 0, .int .i64 0, .int .i64 0, .int .i64 0], cmp := true }
def Try.ati118 : TI := { k := .struct [(0, 116), (5, 3)], size := 6, bytes := 48, zero := .agg [.bool false, .int .i64 0, .int .i64 0, .int .i64 0, .int .i64 0, .int .i64 0], cmp := true }
def Try.ati119 : TI := { k := .func, size := 1, bytes := 8, zero := .nilfunc, cmp := false }
def Try.ati120 : TI := { k := .map 109 121, size := 1, bytes := 8, zero := .nilmap, cmp := false }
def Try.ati121 : TI := { k := .ptr, size := 1, bytes := 8, zero := .nilptr, cmp := false }
def Try.ati122 : TI := { k := .struct [(0, 116), (5, 62)], size := 6, bytes := 64, zero := .agg [.bool false, .int .i64 0, .int .i64 0, .int .i64 0, .int .i64 0, .nils], cmp := false }
def Try.ati123 : TI := { k := .struct [(0, 116), (5, 62)], size := 6, bytes := 64, zero := .agg [.bool false, .int .i64 0, .int .i64 0, .int .i64 0, .int .i64 0, .nils], cmp := false }
def Try.ati124 : TI := { k := .func, size := 1, bytes := 8, zero := .nilfunc, cmp := false }
def Try.ati125 : TI := { k := .func, size := 1, bytes := 8, zero := .nilfunc, cmp := false }
def Try.ati126 : TI := { k := .func, size := 1, bytes := 8, zero := .nilfunc, cmp := false }
def Try.ati127 : TI := { k := .func, size := 1, bytes := 8, zero := .nilfunc, cmp := false }
def Try.ati128 : TI := { k := .int .u64, size := 1, bytes := 8, zero := .int .u64 0, cmp := true }
def Try.ati129 : TI := { k := .func, size := 1, bytes := 8, zero := .nilfunc, cmp := false }
def Try.ati130 : TI := { k := .func, size := 1, bytes := 8, zero := .nilfunc, cmp := false }
def Try.ati131 : TI := { k := .func, size := 1, bytes := 8, zero := .nilfunc, cmp := false }
def Try.ati132 : TI := { k := .array 8 129, size := 8, bytes := 64, zero := .agg [.nilfunc, .nilfunc, .nilfunc, .nilfunc, .nilfunc, .nilfunc, .nilfunc, .nilfunc], cmp := false }
def Try.ati135 : TI := { k := .func, size := 1, bytes := 8, zero := .nilfunc, cmp := false }
def Try.ati137 : TI := { k := .func, size := 1, bytes := 8, zero := .nilfunc, cmp := false }
def Try.ati138 : TI := { k := .func, size := 1, bytes := 8, zero := .nilfunc, cmp := false }
def Try.ati139 : TI := { k := .func, size := 1, bytes := 8, zero := .nilfunc, cmp := false }
def Try.ati140 : TI := { k := .func, size := 1, bytes := 8, zero := .nilfunc, cmp := false }
def Try.ati141 : TI := { k := .func, size := 1, bytes := 8, zero := .nilfunc, cmp := false }
def Try.ati142 : TI := { k := .slice 140, size := 1, bytes := 24, zero := .nils, cmp := false }
def Try.ati143 : TI := { k := .func, size := 1, bytes := 8, zero := .nilfunc, cmp := false }
def Try.ati144 : TI := { k := .func, size := 1, bytes := 8, zero := .nilfunc, cmp := false }
def Try.ati145 : TI := { k := .func, size := 1, bytes := 8, zero := .nilfunc, cmp := false }
def Try.ati146 : TI := { k := .func, size := 1, bytes := 8, zero := .nilfunc, cmp := false }
def Try.ati147 : TI := { k := .func, size := 1, bytes := 8, zero := .nilfunc, cmp := false }
def Try.ati148 : TI := { k := .func, size := 1, bytes := 8, zero := .nilfunc, cmp := false }
def Try.ati149 : TI := { k := .func, size := 1, bytes := 8, zero := .nilfunc, cmp := false }
def Try.ati150 : TI := { k := .func, size := 1, bytes := 8, zero := .nilfunc, cmp := false }
def Try.ati151 : TI := { k := .slice 24, size := 1, bytes := 24, zero := .nils, cmp := false }
def Try.ati152 : TI := { k := .func, size := 1, bytes := 8, zero := .nilfunc, cmp := false }
def Try.ati153 : TI := { k := .func, size := 1, bytes := 8, zero := .nilfunc, cmp := false }
def Try.ati155 : TI := { k := .func, size := 1, bytes := 8, zero := .nilfunc, cmp := false }
def Try.ati156 : TI := { k := .func, size := 1, bytes := 8, zero := .nilfunc, cmp := false }
def Try.ati157 : TI := { k := .func, size := 1, bytes := 8, zero := .nilfunc, cmp := false }
def Try.ati158 : TI := { k := .func, size := 1, bytes := 8, zero := .nilfunc, cmp := false }
def Try.ati160 : TI := { k := .func, size := 1, bytes := 8, zero := .nilfunc, cmp := false }
def Try.ati161 : TI := { k := .struct [(0, 5), (1, 3), (2, 70), (8, 3)], size := 9, bytes := 104, zero := .agg [.int .u8 0, .int .i64 0, .int .i64 0, .int .i64 0, .int .i64 0, .int .i64 0, .nils, .nils, .int .i64 0], cmp := false }
def Try.ati162 : TI := { k := .struct [(0, 5), (1, 3), (2, 70), (8, 3)], size := 9, bytes := 104, zero := .agg [.int .u8 0, .int .i64 0, .int .i64 0, .int .i64 0, .int .i64 0, .int .i64 0, .nils, .nils, .int .i64 0], cmp := false }
def Try.ati163 : TI := { k := .func, size := 1, bytes := 8, zero := .nilfunc, cmp := false }
def Try.ati164 : TI := { k := .func, size := 1, bytes := 8, zero := .nilfunc, cmp := false }
def Try.ati165 : TI := { k := .func, size := 1, bytes := 8, zero := .nilfunc, cmp := false }
def Try.ati166 : TI := { k := .func, size := 1, bytes := 8, zero := .nilfunc, cmp := false }
def Try.ati167 : TI := { k := .func, size := 1, bytes := 8, zero := .nilfunc, cmp := false }
def Try.ati169 : TI := { k := .func, size := 1, bytes := 8, zero := .nilfunc, cmp := false }
def Try.ati170 : TI := { k := .array 3 3, size := 3, bytes := 24, zero := .agg [.int .i64 0, .int .i64 0, .int .i64 0], cmp := true }
def Try.ati171 : TI := { k := .func, size := 1, bytes := 8, zero := .nilfunc, cmp := false }
def Try.ati172 : TI := { k := .func, size := 1, bytes := 8, zero := .nilfunc, cmp := false }
def Try.ati173 : TI := { k := .struct [(0, 5), (1, 3), (2, 70), (8, 3), (9, 3), (10, 3), (11, 3), (12, 3), (13, 3), (14, 3)], size := 15, bytes := 152, zero := .agg [.int .u8 0, .int .i64 0, .int .i64 0, .int .i64 0, .int .i64 0, .int .i64 0, .nils, .nils, .int .i64 0, .int .i64 0, .int .i64 0, .int .i64 0, .int .i64 0, .int .i64 0, .int .i64 0], cmp := false }
def Try.ati174 : TI := { k := .struct [(0, 5), (1, 3), (2, 70), (8, 3), (9, 3), (10, 3), (11, 3), (12, 3), (13, 3), (14, 3)], size := 15, bytes := 152, zero := .agg [.int .u8 0, .int .i64 0, .int .i64 0, .int .i64 0, .int .i64 0, .int .i64 0, .nils, .nils, .int .i64 0, .int .i64 0, .int .i64 0, .int .i64 0, .int .i64 0, .int .i64 0, .int .i64 0], cmp := false }
def Try.ati175 : TI := { k := .func, size := 1, bytes := 8, zero := .nilfunc, cmp := false }
def Try.ati176 : TI := { k := .func, size := 1, bytes := 8, zero := .nilfunc, cmp := false }
def Try.ati177 : TI := { k := .func, size := 1, bytes := 8, zero := .nilfunc, cmp := false }
def Try.ati178 : TI := { k := .func, size := 1, bytes := 8, zero := .nilfunc, cmp := false }
def Try.ati179 : TI := { k := .map 3 4, size := 1, bytes := 8, zero := .nilmap, cmp := false }
def Try.ati180 : TI := { k := .func, size := 1, bytes := 8, zero := .nilfunc, cmp := false }
def Try.ati181 : TI := { k := .func, size := 1, bytes := 8, zero := .nilfunc, cmp := false }
def Try.ati182 : TI := { k := .func, size := 1, bytes := 8, zero := .nilfunc, cmp := false }
def Try.ati183 : TI := { k := .func, size := 1, bytes := 8, zero := .nilfunc, cmp := false }
def Try.ati184 : TI := { k := .func, size := 1, bytes := 8, zero := .nilfunc, cmp := false }
def Try.ati185 : TI := { k := .func, size := 1, bytes := 8, zero := .nilfunc, cmp := false }
def Try.ati186 : TI := { k := .func, size := 1, bytes := 8, zero := .nilfunc, cmp := false }
def Try.ati187 : TI := { k := .func, size := 1, bytes := 8, zero := .nilfunc, cmp := false }
def Try.ati188 : TI := { k := .func, size := 1, bytes := 8, zero := .nilfunc, cmp := false }
def Try.ati189 : TI := { k := .func, size := 1, bytes := 8, zero := .nilfunc, cmp := false }
def Try.ati190 : TI := { k := .func, size := 1, bytes := 8, zero := .nilfunc, cmp := false }
def Try.ati191 : TI := { k := .iface, size := 1, bytes := 16, zero := .niliface, cmp := false }
def Try.ati192 : TI := { k := .iface, size := 1, bytes := 16, zero := .niliface, cmp := false }
def Try.ati193 : TI := { k := .func, size := 1, bytes := 8, zero := .nilfunc, cmp := false }
def Try.ati194 : TI := { k := .struct [(0, 70)], size := 6, bytes := 80, zero := .agg [.int .i64 0, .int .i64 0, .int .i64 0, .int .i64 0, .nils, .nils], cmp := false }
def Try.ati195 : TI := { k := .struct [(0, 70)], size := 6, bytes := 80, zero := .agg [.int .i64 0, .int .i64 0, .int .i64 0, .int .i64 0, .nils, .nils], cmp := false }
def Try.ati196 : TI := { k := .func, size := 1, bytes := 8, zero := .nilfunc, cmp := false }
def Try.ati197 : TI := { k := .struct [(0, 3)], size := 1, bytes := 8, zero := .agg [.int .i64 0], cmp := true }
def Try.ati198 : TI := { k := .struct [(0, 3)], size := 1, bytes := 8, zero := .agg [.int .i64 0], cmp := true }
def Try.ati199 : TI := { k := .struct [(0, 3)], size := 1, bytes := 8, zero := .agg [.int .i64 0], cmp := true }
def Try.ati200 : TI := { k := .func, size := 1, bytes := 8, zero := .nilfunc, cmp := false }
def Try.ati201 : TI := { k := .array 8 5, size := 8, bytes := 8, zero := .agg [.int .u8 0, .int .u8 0, .int .u8 0, .int .u8 0, .int .u8 0, .int .u8 0, .int .u8 0, .int .u8 0], cmp := true }
def Try.ati202 : TI := { k := .func, size := 1, bytes := 8, zero := .nilfunc, cmp := false }
def Try.ati203 : TI := { k := .func, size := 1, bytes := 8, zero := .nilfunc, cmp := false }
def Try.ati204 : TI := { k := .func, size := 1, bytes := 8, zero := .nilfunc, cmp := false }
def Try.ati205 : TI := { k := .slice 62, size := 1, bytes := 24, zero := .nils, cmp := false }
def Try.ati206 : TI := { k := .func, size := 1, bytes := 8, zero := .nilfunc, cmp := false }
def Try.ati207 : TI := { k := .func, size := 1, bytes := 8, zero := .nilfunc, cmp := false }
def Try.ati208 : TI := { k := .int .i64, size := 1, bytes := 8, zero := .int .i64 0, cmp := true }
def Try.ati210 : TI := { k := .func, size := 1, bytes := 8, zero := .nilfunc, cmp := false }
def Try.ati211 : TI := { k := .func, size := 1, bytes := 8, zero := .nilfunc, cmp := false }
def Try.ati212 : TI := { k := .func, size := 1, bytes := 8, zero := .nilfunc, cmp := false }
def Try.ati213 : TI := { k := .func, size := 1, bytes := 8, zero := .nilfunc, cmp := false }
def Try.ati215 : TI := { k := .func, size := 1, bytes := 8, zero := .nilfunc, cmp := false }
def Try.ati216 : TI := { k := .func, size := 1, bytes := 8, zero := .nilfunc, cmp := false }
def Try.ati217 : TI := { k := .int .u32, size := 1, bytes := 4, zero := .int .u32 0, cmp := true }
def Try.ati218 : TI := { k := .func, size := 1, bytes := 8, zero := .nilfunc, cmp := false }
def Try.ati219 : TI := { k := .func, size := 1, bytes := 8, zero := .nilfunc, cmp := false }
def Try.ati220 : TI := { k := .func, size := 1, bytes := 8, zero := .nilfunc, cmp := false }
def Try.ati221 : TI := { k := .func, size := 1, bytes := 8, zero := .nilfunc, cmp := false }
def Try.ati222 : TI := { k := .func, size := 1, bytes := 8, zero := .nilfunc, cmp := false }
def Try.ati223 : TI := { k := .func, size := 1, bytes := 8, zero := .nilfunc, cmp := false }
def Try.ati224 : TI := { k := .func, size := 1, bytes := 8, zero := .nilfunc, cmp := false }
def Try.ati225 : TI := { k := .func, size := 1, bytes := 8, zero := .nilfunc, cmp := false }
def Try.ati226 : TI := { k := .int .u64, size := 1, bytes := 8, zero := .int .u64 0, cmp := true }
def Try.ati227 : TI := { k := .func, size := 1, bytes := 8, zero := .nilfunc, cmp := false }
def Try.ati228 : TI := { k := .func, size := 1, bytes := 8, zero := .nilfunc, cmp := false }
def Try.ati229 : TI := { k := .func, size := 1, bytes := 8, zero := .nilfunc, cmp := false }
def Try.ati230 : TI := { k := .func, size := 1, bytes := 8, zero := .nilfunc, cmp := false }
def Try.ati231 : TI := { k := .func, size := 1, bytes := 8, zero := .nilfunc, cmp := false }
def Try.ati232 : TI := { k := .func, size := 1, bytes := 8, zero := .nilfunc, cmp := false }
def Try.ati233 : TI := { k := .func, size := 1, bytes := 8, zero := .nilfunc, cmp := false }
def Try.ati234 : TI := { k := .func, size := 1, bytes := 8, zero := .nilfunc, cmp := false }
def Try.ati235 : TI := { k := .func, size := 1, bytes := 8, zero := .nilfunc, cmp := false }
def Try.ati236 : TI := { k := .ptr, size := 1, bytes := 8, zero := .nilptr, cmp := false }
def Try.ati238 : TI := { k := .func, size := 1, bytes := 8, zero := .nilfunc, cmp := false }
def Try.ati239 : TI := { k := .func, size := 1, bytes := 8, zero := .nilfunc, cmp := false }
def Try.ati240 : TI := { k := .struct [(0, 17), (1, 17), (2, 17), (3, 9)], size := 4, bytes := 40, zero := .agg [.nilptr, .nilptr, .nilptr, .str []], cmp := false }
def Try.ati241 : TI := { k := .struct [(0, 17), (1, 17), (2, 17), (3, 9)], size := 4, bytes := 40, zero := .agg [.nilptr, .nilptr, .nilptr, .str []], cmp := false }
def Try.ati242 : TI := { k := .array 0 16, size := 0, bytes := 0, zero := .agg [], cmp := false }
def Try.ati245 : TI := { k := .int .u8, size := 1, bytes := 1, zero := .int .u8 0, cmp := true }
def Try.ati246 : TI := { k := .int .u8, size := 1, bytes := 1, zero := .int .u8 0, cmp := true }
def Try.ati247 : TI := { k := .func, size := 1, bytes := 8, zero := .nilfunc, cmp := false }
def Try.ati248 : TI := { k := .ptr, size := 1, bytes := 8, zero := .nilptr, cmp := false }
def Try.ati249 : TI := { k := .int .i32, size := 1, bytes := 4, zero := .int .i32 0, cmp := true }
def Try.ati250 : TI := { k := .int .i32, size := 1, bytes := 4, zero := .int .i32 0, cmp := true }
def Try.ati251 : TI := { k := .struct [(0, 12), (1, 12), (2, 217), (3, 245), (4, 5), (5, 5), (6, 246), (7, 247), (8, 248), (9, 249), (10, 250)], size := 11, bytes := 48, zero := .agg [.int .u64 0, .int .u64 0, .int .u32 0, .int .u8 0, .int .u8 0, .int .u8 0, .int .u8 0, .nilfunc, .nilptr, .int .i32 0, .int .i32 0], cmp := false }
def Try.ati252 : TI := { k := .struct [(0, 12), (1, 12), (2, 217), (3, 245), (4, 5), (5, 5), (6, 246), (7, 247), (8, 248), (9, 249), (10, 250)], size := 11, bytes := 48, zero := .agg [.int .u64 0, .int .u64 0, .int .u32 0, .int .u8 0, .int .u8 0, .int .u8 0, .int .u8 0, .nilfunc, .nilptr, .int .i32 0, .int .i32 0], cmp := false }
def Try.ati253 : TI := { k := .func, size := 1, bytes := 8, zero := .nilfunc, cmp := false }
noncomputable def Try.atypes_ : Tr TI := (.node 124 Try.ati124 (.node 64 Try.ati64 (.node 32 Try.ati32 (.node 17 Try.ati17 (.node 8 Try.ati8 (.node 4 Try.ati4 (.node 2 Try.ati2 (.node 1 Try.ati1 .nil .nil) (.node 3 Try.ati3 .nil .nil)) (.node 6 Try.ati6 (.node 5 Try.ati5 .nil .nil) (.node 7 Try.ati7 .nil .nil))) (.node 12 Try.ati12 (.node 10 Try.ati10 (.node 9 Try.ati9 .nil .nil) (.node 11 Try.ati11 .nil .nil)) (.node 16 Try.ati16 (.node 15 Try.ati15 .nil .nil) .nil))) (.node 25 Try.ati25 (.node 21 Try.ati21 (.node 19 Try.ati19 (.node 18 Try.ati18 .nil .nil) (.node 20 Try.ati20 .nil .nil)) (.node 23 Try.ati23 (.node 22 Try.ati22 .nil .nil) (.node 24 Try.ati24 .nil .nil))) (.node 29 Try.ati29 (.node 27 Try.ati27 (.node 26 Try.ati26 .nil .nil) (.node 28 Try.ati28 .nil .nil)) (.node 31 Try.ati31 (.node 30 Try.ati30 .nil .nil) .nil)))) (.node 49 Try.ati49 (.node 42 Try.ati42 (.node 36 Try.ati36 (.node 34 Try.ati34 (.node 33 Try.ati33 .nil .nil) (.node 35 Try.ati35 .nil .nil)) (.node 40 Try.ati40 (.node 38 Try.ati38 .nil .nil) (.node 41 Try.ati41 .nil .nil))) (.node 46 Try.ati46 (.node 44 Try.ati44 (.node 43 Try.ati43 .nil .nil) (.node 45 Try.ati45 .nil .nil)) (.node 48 Try.ati48 (.node 47 Try.ati47 .nil .nil) .nil))) (.node 57 Try.ati57 (.node 53 Try.ati53 (.node 51 Try.ati51 (.node 50 Try.ati50 .nil .nil) (.node 52 Try.ati52 .nil .nil)) (.node 55 Try.ati55 (.node 54 Try.ati54 .nil .nil) (.node 56 Try.ati56 .nil .nil))) (.node 61 Try.ati61 (.node 59 Try.ati59 (.node 58 Try.ati58 .nil .nil) (.node 60 Try.ati60 .nil .nil)) (.node 63 Try.ati63 (.node 62 Try.ati62 .nil .nil) .nil))))) (.node 94 Try.ati94 (.node 79 Try.ati79 (.node 72 Try.ati72 (.node 68 Try.ati68 (.node 66 Try.ati66 (.node 65 Try.ati65 .nil .nil) (.node 67 Try.ati67 .nil .nil)) (.node 70 Try.ati70 (.node 69 Try.ati69 .nil .nil) (.node 71 Try.ati71 .nil .nil))) (.node 76 Try.ati76 (.node 74 Try.ati74 (.node 73 Try.ati73 .nil .nil) (.node 75 Try.ati75 .nil .nil)) (.node 78 Try.ati78 (.node 77 Try.ati77 .nil .nil) .nil))) (.node 87 Try.ati87 (.node 83 Try.ati83 (.node 81 Try.ati81 (.node 80 Try.ati80 .nil .nil) (.node 82 Try.ati82 .nil .nil)) (.node 85 Try.ati85 (.node 84 Try.ati84 .nil .nil) (.node 86 Try.ati86 .nil .nil))) (.node 91 Try.ati91 (.node 89 Try.ati89 (.node 88 Try.ati88 .nil .nil) (.node 90 Try.ati90 .nil .nil)) (.node 93 Try.ati93 (.node 92 Try.ati92 .nil .nil) .nil)))) (.node 109 Try.ati109 (.node 102 Try.ati102 (.node 98 Try.ati98 (.node 96 Try.ati96 (.node 95 Try.ati95 .nil .nil) (.node 97 Try.ati97 .nil .nil)) (.node 100 Try.ati100 (.node 99 Try.ati99 .nil .nil) (.node 101 Try.ati101 .nil .nil))) (.node 106 Try.ati106 (.node 104 Try.ati104 (.node 103 Try.ati103 .nil .nil) (.node 105 Try.ati105 .nil .nil)) (.node 108 Try.ati108 (.node 107 Try.ati107 .nil .nil) .nil))) (.node 117 Try.ati117 (.node 113 Try.ati113 (.node 111 Try.ati111 (.node 110 Try.ati110 .nil .nil) (.node 112 Try.ati112 .nil .nil)) (.node 115 Try.ati115 (.node 114 Try.ati114 .nil .nil) (.node 116 Try.ati116 .nil .nil))) (.node 121 Try.ati121 (.node 119 Try.ati119 (.node 118 Try.ati118 .nil .nil) (.node 120 Try.ati120 .nil .nil)) (.node 123 Try.ati123 (.node 122 Try.ati122 .nil .nil) .nil)))))) (.node 190 Try.ati190 (.node 158 Try.ati158 (.node 142 Try.ati142 (.node 132 Try.ati132 (.node 128 Try.ati128 (.node 126 Try.ati126 (.node 125 Try.ati125 .nil .nil) (.node 127 Try.ati127 .nil .nil)) (.node 130 Try.ati130 (.node 129 Try.ati129 .nil .nil) (.node 131 Try.ati131 .nil .nil))) (.node 139 Try.ati139 (.node 137 Try.ati137 (.node 135 Try.ati135 .nil .nil) (.node 138 Try.ati138 .nil .nil)) (.node 141 Try.ati141 (.node 140 Try.ati140 .nil .nil) .nil))) (.node 150 Try.ati150 (.node 146 Try.ati146 (.node 144 Try.ati144 (.node 143 Try.ati143 .nil .nil) (.node 145 Try.ati145 .nil .nil)) (.node 148 Try.ati148 (.node 147 Try.ati147 .nil .nil) (.node 149 Try.ati149 .nil .nil))) (.node 155 Try.ati155 (.node 152 Try.ati152 (.node 151 Try.ati151 .nil .nil) (.node 153 Try.ati153 .nil .nil)) (.node 157 Try.ati157 (.node 156 Try.ati156 .nil .nil) .nil)))) (.node 175 Try.ati175 (.node 167 Try.ati167 (.node 163 Try.ati163 (.node 161 Try.ati161 (.node 160 Try.ati160 .nil .nil) (.node 162 Try.ati162 .nil .nil)) (.node 165 Try.ati165 (.node 164 Try.ati164 .nil .nil) (.node 166 Try.ati166 .nil .nil))) (.node 172 Try.ati172 (.node 170 Try.ati170 (.node 169 Try.ati169 .nil .nil) (.node 171 Try.ati171 .nil .nil)) (.node 174 Try.ati174 (.node 173 Try.ati173 .nil .nil) .nil))) (.node 183 Try.ati183 (.node 179 Try.ati179 (.node 177 Try.ati177 (.node 176 Try.ati176 .nil .nil) (.node 178 Try.ati178 .nil .nil)) (.node 181 Try.ati181 (.node 180 Try.ati180 .nil .nil) (.node 182 Try.ati182 .nil .nil))) (.node 187 Try.ati187 (.node 185 Try.ati185 (.node 184 Try.ati184 .nil .nil) (.node 186 Try.ati186 .nil .nil)) (.node 189 Try.ati189 (.node 188 Try.ati188 .nil .nil) .nil))))) (.node 222 Try.ati222 (.node 205 Try.ati205 (.node 198 Try.ati198 (.node 194 Try.ati194 (.node 192 Try.ati192 (.node 191 Try.ati191 .nil .nil) (.node 193 Try.ati193 .nil .nil)) (.node 196 Try.ati196 (.node 195 Try.ati195 .nil .nil) (.node 197 Try.ati197 .nil .nil))) (.node 202 Try.ati202 (.node 200 Try.ati200 (.node 199 Try.ati199 .nil .nil) (.node 201 Try.ati201 .nil .nil)) (.node 204 Try.ati204 (.node 203 Try.ati203 .nil .nil) .nil))) (.node 215 Try.ati215 (.node 210 Try.ati210 (.node 207 Try.ati207 (.node 206 Try.ati206 .nil .nil) (.node 208 Try.ati208 .nil .nil)) (.node 212 Try.ati212 (.node 211 Try.ati211 .nil .nil) (.node 213 Try.ati213 .nil .nil))) (.node 219 Try.ati219 (.node 217 Try.ati217 (.node 216 Try.ati216 .nil .nil) (.node 218 Try.ati218 .nil .nil)) (.node 221 Try.ati221 (.node 220 Try.ati220 .nil .nil) .nil)))) (.node 238 Try.ati238 (.node 230 Try.ati230 (.node 226 Try.ati226 (.node 224 Try.ati224 (.node 223 Try.ati223 .nil .nil) (.node 225 Try.ati225 .nil .nil)) (.node 228 Try.ati228 (.node 227 Try.ati227 .nil .nil) (.node 229 Try.ati229 .nil .nil))) (.node 234 Try.ati234 (.node 232 Try.ati232 (.node 231 Try.ati231 .nil .nil) (.node 233 Try.ati233 .nil .nil)) (.node 236 Try.ati236 (.node 235 Try.ati235 .nil .nil) .nil))) (.node 247 Try.ati247 (.node 242 Try.ati242 (.node 240 Try.ati240 (.node 239 Try.ati239 .nil .nil) (.node 241 Try.ati241 .nil .nil)) (.node 246 Try.ati246 (.node 245 Try.ati245 .nil .nil) .nil)) (.node 251 Try.ati251 (.node 249 Try.ati249 (.node 248 Try.ati248 .nil .nil) (.node 250 Try.ati250 .nil .nil)) (.node 253 Try.ati253 (.node 252 Try.ati252 .nil .nil) .nil)))))))
noncomputable def Try.afuncs_ : Tr Func := (.node 112 Try.f112 (.node 75 Try.f75 (.node 26 Try.f26 (.node 21 Try.f21 (.node 19 Try.f19 (.node 18 Try.f18 (.node 6 Try.f6 .nil .nil) .nil) (.node 20 Try.f20 .nil .nil)) (.node 24 Try.f24 (.node 23 Try.f23 (.node 22 Try.f22 .nil .nil) .nil) (.node 25 Try.f25 .nil .nil))) (.node 47 Try.f47 (.node 45 Try.f45 (.node 44 Try.f44 (.node 43 Try.f43 .nil .nil) .nil) (.node 46 Try.f46 .nil .nil)) (.node 50 Try.f50 (.node 49 Try.f49 (.node 48 Try.f48 .nil .nil) .nil) (.node 51 Try.f51 .nil .nil)))) (.node 95 Try.f95 (.node 90 Try.f90 (.node 88 Try.f88 (.node 87 Try.f87 (.node 86 Try.f86 .nil .nil) .nil) (.node 89 Try.f89 .nil .nil)) (.node 93 Try.f93 (.node 92 Try.f92 (.node 91 Try.f91 .nil .nil) .nil) (.node 94 Try.f94 .nil .nil))) (.node 100 Try.f100 (.node 98 Try.f98 (.node 97 Try.f97 (.node 96 Try.f96 .nil .nil) .nil) (.node 99 Try.f99 .nil .nil)) (.node 110 Try.f110 (.node 109 Try.f109 (.node 101 Try.f101 .nil .nil) .nil) (.node 111 Try.f111 .nil .nil))))) (.node 140 Try.f140 (.node 122 Try.f122 (.node 117 Try.f117 (.node 115 Try.f115 (.node 114 Try.f114 (.node 113 Try.f113 .nil .nil) .nil) (.node 116 Try.f116 .nil .nil)) (.node 120 Try.f120 (.node 119 Try.f119 (.node 118 Try.f118 .nil .nil) .nil) (.node 121 Try.f121 .nil .nil))) (.node 135 Try.f135 (.node 133 Try.f133 (.node 132 Try.f132 (.node 123 Try.f123 .nil .nil) .nil) (.node 134 Try.f134 .nil .nil)) (.node 138 Try.f138 (.node 137 Try.f137 (.node 136 Try.f136 .nil .nil) .nil) (.node 139 Try.f139 .nil .nil)))) (.node 158 Try.f158 (.node 145 Try.f145 (.node 143 Try.f143 (.node 142 Try.f142 (.node 141 Try.f141 .nil .nil) .nil) (.node 144 Try.f144 .nil .nil)) (.node 156 Try.f156 (.node 147 Try.f147 (.node 146 Try.f146 .nil .nil) .nil) (.node 157 Try.f157 .nil .nil))) (.node 163 Try.f163 (.node 161 Try.f161 (.node 160 Try.f160 (.node 159 Try.f159 .nil .nil) .nil) (.node 162 Try.f162 .nil .nil)) (.node 179 Try.f179 (.node 164 Try.f164 .nil .nil) (.node 180 Try.f180 .nil .nil))))))
noncomputable def Try.apure_ : Tr Unit := (.node 115 () (.node 96 () (.node 26 () (.node 22 () (.node 6 () .nil .nil) .nil) (.node 93 () (.node 75 () .nil .nil) .nil)) (.node 101 () (.node 98 () (.node 97 () .nil .nil) .nil) (.node 114 () (.node 109 () .nil .nil) .nil))) (.node 145 () (.node 122 () (.node 121 () (.node 119 () .nil .nil) .nil) (.node 142 () (.node 123 () .nil .nil) .nil)) (.node 157 () (.node 147 () (.node 146 () .nil .nil) .nil) (.node 164 () (.node 160 () .nil .nil) .nil))))
noncomputable def Try.aobjs_ : Tr Unit := (.node 65 () (.node 57 () (.node 3 () .nil .nil) .nil) (.node 76 () (.node 73 () .nil .nil) .nil))
theorem Try.atypes_ok : Try.atypes_.all (typeB Try.prog) = true := by kernel_rfl
theorem Try.afuncs_ok : Try.afuncs_.AllP fun f fn => Try.prog.funcs[f]? = some fn ∧ fn.body.isSome = true ∧ fn.name ≠ "runtime.NumGoroutine" := by
  exact ⟨⟨Try.func112, rfl, of_decide_eq_true (by kernel_rfl)⟩, ⟨⟨Try.func75, rfl, of_decide_eq_true (by kernel_rfl)⟩, ⟨⟨Try.func26, rfl, of_decide_eq_true (by kernel_rfl)⟩, ⟨⟨Try.func21, rfl, of_decide_eq_true (by kernel_rfl)⟩, ⟨⟨Try.func19, rfl, of_decide_eq_true (by kernel_rfl)⟩, ⟨⟨Try.func18, rfl, of_decide_eq_true (by kernel_rfl)⟩, ⟨⟨Try.func6, rfl, of_decide_eq_true (by kernel_rfl)⟩, trivial, trivial⟩, trivial⟩, ⟨⟨Try.func20, rfl, of_decide_eq_true (by kernel_rfl)⟩, trivial, trivial⟩⟩, ⟨⟨Try.func24, rfl, of_decide_eq_true (by kernel_rfl)⟩, ⟨⟨Try.func23, rfl, of_decide_eq_true (by kernel_rfl)⟩, ⟨⟨Try.func22, rfl, of_decide_eq_true (by kernel_rfl)⟩, trivial, trivial⟩, trivial⟩, ⟨⟨Try.func25, rfl, of_decide_eq_true (by kernel_rfl)⟩, trivial, trivial⟩⟩⟩, ⟨⟨Try.func47, rfl, of_decide_eq_true (by kernel_rfl)⟩, ⟨⟨Try.func45, rfl, of_decide_eq_true (by kernel_rfl)⟩, ⟨⟨Try.func44, rfl, of_decide_eq_true (by kernel_rfl)⟩, ⟨⟨Try.func43, rfl, of_decide_eq_true (by kernel_rfl)⟩, trivial, trivial⟩, trivial⟩, ⟨⟨Try.func46, rfl, of_decide_eq_true (by kernel_rfl)⟩, trivial, trivial⟩⟩, ⟨⟨Try.func50, rfl, of_decide_eq_true (by kernel_rfl)⟩, ⟨⟨Try.func49, rfl, of_decide_eq_true (by kernel_rfl)⟩, ⟨⟨Try.func48, rfl, of_decide_eq_true (by kernel_rfl)⟩, trivial, trivial⟩, trivial⟩, ⟨⟨Try.func51, rfl, of_decide_eq_true (by kernel_rfl)⟩, trivial, trivial⟩⟩⟩⟩, ⟨⟨Try.func95, rfl, of_decide_eq_true (by kernel_rfl)⟩, ⟨⟨Try.func90, rfl, of_decide_eq_true (by kernel_rfl)⟩, ⟨⟨Try.func88, rfl, of_decide_eq_true (by kernel_rfl)⟩, ⟨⟨Try.func87, rfl, of_decide_eq_true (by kernel_rfl)⟩, ⟨⟨Try.func86, rfl, of_decide_eq_true (by kernel_rfl)⟩, trivial, trivial⟩, trivial⟩, ⟨⟨Try.func89, rfl, of_decide_eq_true (by kernel_rfl)⟩, trivial, trivial⟩⟩, ⟨⟨Try.func93, rfl, of_decide_eq_true (by kernel_rfl)⟩, ⟨⟨Try.func92, rfl, of_decide_eq_true (by kernel_rfl)⟩, ⟨⟨Try.func91, rfl, of_decide_eq_true (by kernel_rfl)⟩, trivial, trivial⟩, trivial⟩, ⟨⟨Try.func94, rfl, of_decide_eq_true (by kernel_rfl)⟩, trivial, trivial⟩⟩⟩, ⟨⟨Try.func100, rfl, of_decide_eq_true (by kernel_rfl)⟩, ⟨⟨Try.func98, rfl, of_decide_eq_true (by kernel_rfl)⟩, ⟨⟨Try.func97, rfl, of_decide_eq_true (by kernel_rfl)⟩, ⟨⟨Try.func96, rfl, of_decide_eq_true (by kernel_rfl)⟩, trivial, trivial⟩, trivial⟩, ⟨⟨Try.func99, rfl, of_decide_eq_true (by kernel_rfl)⟩, trivial, trivial⟩⟩, ⟨⟨Try.func110, rfl, of_decide_eq_true (by kernel_rfl)⟩, ⟨⟨Try.func109, rfl, of_decide_eq_true (by kernel_rfl)⟩, ⟨⟨Try.func101, rfl, of_decide_eq_true (by kernel_rfl)⟩, trivial, trivial⟩, trivial⟩, ⟨⟨Try.func111, rfl, of_decide_eq_true (by kernel_rfl)⟩, trivial, trivial⟩⟩⟩⟩⟩, ⟨⟨Try.func140, rfl, of_decide_eq_true (by kernel_rfl)⟩, ⟨⟨Try.func122, rfl, of_decide_eq_true (by kernel_rfl)⟩, ⟨⟨Try.func117, rfl, of_decide_eq_true (by kernel_rfl)⟩, ⟨⟨Try.func115, rfl, of_decide_eq_true (by kernel_rfl)⟩, ⟨⟨Try.func114, rfl, of_decide_eq_true (by kernel_rfl)⟩, ⟨⟨Try.func113, rfl, of_decide_eq_true (by kernel_rfl)⟩, trivial, trivial⟩, trivial⟩, ⟨⟨Try.func116, rfl, of_decide_eq_true (by kernel_rfl)⟩, trivial, trivial⟩⟩, ⟨⟨Try.func120, rfl, of_decide_eq_true (by kernel_rfl)⟩, ⟨⟨Try.func119, rfl, of_decide_eq_true (by kernel_rfl)⟩, ⟨⟨Try.func118, rfl, of_decide_eq_true (by kernel_rfl)⟩, trivial, trivial⟩, trivial⟩, ⟨⟨Try.func121, rfl, of_decide_eq_true (by kernel_rfl)⟩, trivial, trivial⟩⟩⟩, ⟨⟨Try.func135, rfl, of_decide_eq_true (by kernel_rfl)⟩, ⟨⟨Try.func133, rfl, of_decide_eq_true (by kernel_rfl)⟩, ⟨⟨Try.func132, rfl, of_decide_eq_true (by kernel_rfl)⟩, ⟨⟨Try.func123, rfl, of_decide_eq_true (by kernel_rfl)⟩, trivial, trivial⟩, trivial⟩, ⟨⟨Try.func134, rfl, of_decide_eq_true (by kernel_rfl)⟩, trivial, trivial⟩⟩, ⟨⟨Try.func138, rfl, of_decide_eq_true (by kernel_rfl)⟩, ⟨⟨Try.func137, rfl, of_decide_eq_true (by kernel_rfl)⟩, ⟨⟨Try.func136, rfl, of_decide_eq_true (by kernel_rfl)⟩, trivial, trivial⟩, trivial⟩, ⟨⟨Try.func139, rfl, of_decide_eq_true (by kernel_rfl)⟩, trivial, trivial⟩⟩⟩⟩, ⟨⟨Try.func158, rfl, of_decide_eq_true (by kernel_rfl)⟩, ⟨⟨Try.func145, rfl, of_decide_eq_true (by kernel_rfl)⟩, ⟨⟨Try.func143, rfl, of_decide_eq_true (by kernel_rfl)⟩, ⟨⟨Try.func142, rfl, of_decide_eq_true (by kernel_rfl)⟩, ⟨⟨Try.func141, rfl, of_decide_eq_true (by kernel_rfl)⟩, trivial, trivial⟩, trivial⟩, ⟨⟨Try.func144, rfl, of_decide_eq_true (by kernel_rfl)⟩, trivial, trivial⟩⟩, ⟨⟨Try.func156, rfl, of_decide_eq_true (by kernel_rfl)⟩, ⟨⟨Try.func147, rfl, of_decide_eq_true (by kernel_rfl)⟩, ⟨⟨Try.func146, rfl, of_decide_eq_true (by kernel_rfl)⟩, trivial, trivial⟩, trivial⟩, ⟨⟨Try.func157, rfl, of_decide_eq_true (by kernel_rfl)⟩, trivial, trivial⟩⟩⟩, ⟨⟨Try.func163, rfl, of_decide_eq_true (by kernel_rfl)⟩, ⟨⟨Try.func161, rfl, of_decide_eq_true (by kernel_rfl)⟩, ⟨⟨Try.func160, rfl, of_decide_eq_true (by kernel_rfl)⟩, ⟨⟨Try.func159, rfl, of_decide_eq_true (by kernel_rfl)⟩, trivial, trivial⟩, trivial⟩, ⟨⟨Try.func162, rfl, of_decide_eq_true (by kernel_rfl)⟩, trivial, trivial⟩⟩, ⟨⟨Try.func179, rfl, of_decide_eq_true (by kernel_rfl)⟩, ⟨⟨Try.func164, rfl, of_decide_eq_true (by kernel_rfl)⟩, trivial, trivial⟩, ⟨⟨Try.func180, rfl, of_decide_eq_true (by kernel_rfl)⟩, trivial, trivial⟩⟩⟩⟩⟩⟩
theorem Try.amixed : Try.prog.follows .mixedOrders = true := by kernel_rfl
end Go.Proofs.Ytanpcjopgcpooaa
