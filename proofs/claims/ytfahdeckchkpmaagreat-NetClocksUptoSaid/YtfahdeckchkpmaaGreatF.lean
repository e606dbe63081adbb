/- Proved here: NetClocksUptoSaid, the law NetClocks where what it reads is of bulk at most 1048576; this text holds a part of its proof. -/
import Derived.Test.YtfahdeckchkpmaaGreatProg
import Derived.Test.YtfahdeckchkpmaaGreatBB
section
set_option linter.unusedVariables false
set_option maxRecDepth 100000
namespace Go.Av
open Go.Proofs
@[go_sem] theorem ty2 : tyI Tryz.prog 2 = { size := 1, bytes := 8, kind := (.int .i64), zero := [(.int .i64 0)], offs := [], fts := [], fsz := [], fok := true, zok := true } := by kernel_rfl
@[go_sem] theorem ty3 : tyI Tryz.prog 3 = { size := 1, bytes := 8, kind := (.int .i64), zero := [(.int .i64 0)], offs := [], fts := [], fsz := [], fok := true, zok := true } := by kernel_rfl
@[go_sem] theorem ty4 : tyI Tryz.prog 4 = { size := 1, bytes := 1, kind := .bool, zero := [(.bool false)], offs := [], fts := [], fsz := [], fok := true, zok := true } := by kernel_rfl
@[go_sem] theorem ty5 : tyI Tryz.prog 5 = { size := 1, bytes := 1, kind := (.int .u8), zero := [(.int .u8 0)], offs := [], fts := [], fsz := [], fok := true, zok := true } := by kernel_rfl
@[go_sem] theorem ty6 : tyI Tryz.prog 6 = { size := 1, bytes := 1, kind := (.int .u8), zero := [(.int .u8 0)], offs := [], fts := [], fsz := [], fok := true, zok := true } := by kernel_rfl
@[go_sem] theorem ty7 : tyI Tryz.prog 7 = { size := 4, bytes := 24, kind := .struct, zero := [(.int .i64 0), (.int .i64 0), (.bool false), (.int .u8 0)], offs := [0, 1, 2, 3], fts := [2, 3, 4, 6], fsz := [1, 1, 1, 1], fok := true, zok := true } := by kernel_rfl
@[go_sem] theorem ty8 : tyI Tryz.prog 8 = { size := 4, bytes := 24, kind := .struct, zero := [(.int .i64 0), (.int .i64 0), (.bool false), (.int .u8 0)], offs := [0, 1, 2, 3], fts := [2, 3, 4, 6], fsz := [1, 1, 1, 1], fok := true, zok := true } := by kernel_rfl
@[go_sem] theorem ty9 : tyI Tryz.prog 9 = { size := 1, bytes := 16, kind := .str, zero := [(.str ByteArray.empty)], offs := [], fts := [], fsz := [], fok := true, zok := true } := by kernel_rfl
@[go_sem] theorem ty10 : tyI Tryz.prog 10 = { size := 1, bytes := 16, kind := .str, zero := [(.str ByteArray.empty)], offs := [], fts := [], fsz := [], fok := true, zok := true } := by kernel_rfl
@[go_sem] theorem ty11 : tyI Tryz.prog 11 = { size := 1, bytes := 16, kind := .str, zero := [(.str ByteArray.empty)], offs := [], fts := [], fsz := [], fok := true, zok := true } := by kernel_rfl
@[go_sem] theorem ty12 : tyI Tryz.prog 12 = { size := 1, bytes := 8, kind := (.int .u64), zero := [(.int .u64 0)], offs := [], fts := [], fsz := [], fok := true, zok := true } := by kernel_rfl
@[go_sem] theorem ty13 : tyI Tryz.prog 13 = { size := 2, bytes := 24, kind := .struct, zero := [(.str ByteArray.empty), (.int .u64 0)], offs := [0, 1], fts := [9, 12], fsz := [1, 1], fok := true, zok := true } := by kernel_rfl
@[go_sem] theorem ty14 : tyI Tryz.prog 14 = { size := 2, bytes := 24, kind := .struct, zero := [(.str ByteArray.empty), (.int .u64 0)], offs := [0, 1], fts := [9, 12], fsz := [1, 1], fok := true, zok := true } := by kernel_rfl
@[go_sem] theorem ty15 : tyI Tryz.prog 15 = { size := 1, bytes := 8, kind := (.ptr 442), zero := [.nilp], offs := [], fts := [], fsz := [], fok := true, zok := true } := by kernel_rfl
@[go_sem] theorem ty16 : tyI Tryz.prog 16 = { size := 1, bytes := 8, kind := (.ptr 445), zero := [.nilp], offs := [], fts := [], fsz := [], fok := true, zok := true } := by kernel_rfl
@[go_sem] theorem ty17 : tyI Tryz.prog 17 = { size := 1, bytes := 8, kind := (.ptr 453), zero := [.nilp], offs := [], fts := [], fsz := [], fok := true, zok := true } := by kernel_rfl
@[go_sem] theorem ty18 : tyI Tryz.prog 18 = { size := 1, bytes := 8, kind := .struct, zero := [.nilp], offs := [0], fts := [17], fsz := [1], fok := true, zok := true } := by kernel_rfl
@[go_sem] theorem ty19 : tyI Tryz.prog 19 = { size := 1, bytes := 8, kind := .struct, zero := [.nilp], offs := [0], fts := [17], fsz := [1], fok := true, zok := true } := by kernel_rfl
@[go_sem] theorem ty21 : tyI Tryz.prog 21 = { size := 1, bytes := 4, kind := (.int .i32), zero := [(.int .i32 0)], offs := [], fts := [], fsz := [], fok := true, zok := true } := by kernel_rfl
@[go_sem] theorem ty22 : tyI Tryz.prog 22 = { size := 1, bytes := 24, kind := (.slice 68), zero := [.nils], offs := [], fts := [], fsz := [], fok := true, zok := true } := by kernel_rfl
@[go_sem] theorem ty23 : tyI Tryz.prog 23 = { size := 1, bytes := 24, kind := (.slice 205), zero := [.nils], offs := [], fts := [], fsz := [], fok := true, zok := true } := by kernel_rfl
@[go_sem] theorem ty24 : tyI Tryz.prog 24 = { size := 1, bytes := 24, kind := (.slice 28), zero := [.nils], offs := [], fts := [], fsz := [], fok := true, zok := true } := by kernel_rfl
@[go_sem] theorem ty25 : tyI Tryz.prog 25 = { size := 1, bytes := 4, kind := (.int .u32), zero := [(.int .u32 0)], offs := [], fts := [], fsz := [], fok := true, zok := true } := by kernel_rfl
@[go_sem] theorem ty26 : tyI Tryz.prog 26 = { size := 1, bytes := 24, kind := (.slice 5), zero := [.nils], offs := [], fts := [], fsz := [], fok := true, zok := true } := by kernel_rfl
@[go_sem] theorem ty27 : tyI Tryz.prog 27 = { size := 8, bytes := 88, kind := .struct, zero := [(.int .i64 0), (.int .i64 0), (.int .i64 0), (.int .i64 0), (.int .u32 0), (.int .u32 0), .nils, .nils], offs := [0, 1, 2, 3, 4, 5, 6, 7], fts := [3, 3, 3, 2, 25, 25, 26, 26], fsz := [1, 1, 1, 1, 1, 1, 1, 1], fok := true, zok := true } := by kernel_rfl
@[go_sem] theorem ty28 : tyI Tryz.prog 28 = { size := 8, bytes := 88, kind := .struct, zero := [(.int .i64 0), (.int .i64 0), (.int .i64 0), (.int .i64 0), (.int .u32 0), (.int .u32 0), .nils, .nils], offs := [0, 1, 2, 3, 4, 5, 6, 7], fts := [3, 3, 3, 2, 25, 25, 26, 26], fsz := [1, 1, 1, 1, 1, 1, 1, 1], fok := true, zok := true } := by kernel_rfl
@[go_sem] theorem ty29 : tyI Tryz.prog 29 = { size := 1, bytes := 8, kind := (.ptr 133), zero := [.nilp], offs := [], fts := [], fsz := [], fok := true, zok := true } := by kernel_rfl
@[go_sem] theorem ty33 : tyI Tryz.prog 33 = { size := 1, bytes := 24, kind := (.slice 59), zero := [.nils], offs := [], fts := [], fsz := [], fok := true, zok := true } := by kernel_rfl
@[go_sem] theorem ty35 : tyI Tryz.prog 35 = { size := 1, bytes := 24, kind := (.slice 57), zero := [.nils], offs := [], fts := [], fsz := [], fok := true, zok := true } := by kernel_rfl
@[go_sem] theorem ty38 : tyI Tryz.prog 38 = { size := 4, bytes := 32, kind := .struct, zero := [(.int .i64 0), (.int .i64 0), (.int .i64 0), (.int .i64 0)], offs := [0, 1, 2, 3], fts := [2, 2, 2, 2], fsz := [1, 1, 1, 1], fok := true, zok := true } := by kernel_rfl
@[go_sem] theorem ty39 : tyI Tryz.prog 39 = { size := 4, bytes := 32, kind := .struct, zero := [(.int .i64 0), (.int .i64 0), (.int .i64 0), (.int .i64 0)], offs := [0, 1, 2, 3], fts := [2, 2, 2, 2], fsz := [1, 1, 1, 1], fok := true, zok := true } := by kernel_rfl
@[go_sem] theorem ty40 : tyI Tryz.prog 40 = { size := 6, bytes := 64, kind := .struct, zero := [(.int .i64 0), .nils, (.int .i64 0), (.int .i64 0), (.int .i64 0), (.int .i64 0)], offs := [0, 1, 2], fts := [3, 26, 39], fsz := [1, 1, 4], fok := true, zok := true } := by kernel_rfl
@[go_sem] theorem ty41 : tyI Tryz.prog 41 = { size := 6, bytes := 64, kind := .struct, zero := [(.int .i64 0), .nils, (.int .i64 0), (.int .i64 0), (.int .i64 0), (.int .i64 0)], offs := [0, 1, 2], fts := [3, 26, 39], fsz := [1, 1, 4], fok := true, zok := true } := by kernel_rfl
@[go_sem] theorem ty42 : tyI Tryz.prog 42 = { size := 1, bytes := 8, kind := (.int .i64), zero := [(.int .i64 0)], offs := [], fts := [], fsz := [], fok := true, zok := true } := by kernel_rfl
@[go_sem] theorem ty45 : tyI Tryz.prog 45 = { size := 8, bytes := 88, kind := .struct, zero := [(.int .i64 0), (.int .i64 0), (.int .i64 0), (.int .i64 0), (.int .u32 0), (.int .u32 0), .nils, .nils], offs := [0, 1, 2, 3, 4, 5, 6, 7], fts := [3, 3, 3, 2, 25, 25, 26, 26], fsz := [1, 1, 1, 1, 1, 1, 1, 1], fok := true, zok := true } := by kernel_rfl
@[go_sem] theorem ty50 : tyI Tryz.prog 50 = { size := 1, bytes := 24, kind := (.slice 51), zero := [.nils], offs := [], fts := [], fsz := [], fok := true, zok := true } := by kernel_rfl
@[go_sem] theorem ty51 : tyI Tryz.prog 51 = { size := 1, bytes := 8, kind := (.int .u64), zero := [(.int .u64 0)], offs := [], fts := [], fsz := [], fok := true, zok := true } := by kernel_rfl
@[go_sem] theorem ty54 : tyI Tryz.prog 54 = { size := 1, bytes := 8, kind := (.int .u64), zero := [(.int .u64 0)], offs := [], fts := [], fsz := [], fok := true, zok := true } := by kernel_rfl
@[go_sem] theorem ty56 : tyI Tryz.prog 56 = { size := 5, bytes := 48, kind := .struct, zero := [(.int .i64 0), (.int .u32 0), (.int .u32 0), (.int .i64 0), .nils], offs := [0, 1, 2, 3, 4], fts := [3, 25, 25, 2, 26], fsz := [1, 1, 1, 1, 1], fok := true, zok := true } := by kernel_rfl
@[go_sem] theorem ty57 : tyI Tryz.prog 57 = { size := 5, bytes := 48, kind := .struct, zero := [(.int .i64 0), (.int .u32 0), (.int .u32 0), (.int .i64 0), .nils], offs := [0, 1, 2, 3, 4], fts := [3, 25, 25, 2, 26], fsz := [1, 1, 1, 1, 1], fok := true, zok := true } := by kernel_rfl
@[go_sem] theorem ty58 : tyI Tryz.prog 58 = { size := 3, bytes := 32, kind := .struct, zero := [(.int .u32 0), (.int .u32 0), .nils], offs := [0, 1, 2], fts := [25, 25, 26], fsz := [1, 1, 1], fok := true, zok := true } := by kernel_rfl
@[go_sem] theorem ty59 : tyI Tryz.prog 59 = { size := 3, bytes := 32, kind := .struct, zero := [(.int .u32 0), (.int .u32 0), .nils], offs := [0, 1, 2], fts := [25, 25, 26], fsz := [1, 1, 1], fok := true, zok := true } := by kernel_rfl
@[go_sem] theorem ty61 : tyI Tryz.prog 61 = { size := 3, bytes := 72, kind := .struct, zero := [.nils, .nils, .nils], offs := [0, 1, 2], fts := [50, 50, 50], fsz := [1, 1, 1], fok := true, zok := true } := by kernel_rfl
@[go_sem] theorem ty62 : tyI Tryz.prog 62 = { size := 3, bytes := 72, kind := .struct, zero := [.nils, .nils, .nils], offs := [0, 1, 2], fts := [50, 50, 50], fsz := [1, 1, 1], fok := true, zok := true } := by kernel_rfl
@[go_sem] theorem ty63 : tyI Tryz.prog 63 = { size := 1, bytes := 24, kind := (.slice 102), zero := [.nils], offs := [], fts := [], fsz := [], fok := true, zok := true } := by kernel_rfl
@[go_sem] theorem ty64 : tyI Tryz.prog 64 = { size := 3, bytes := 72, kind := .struct, zero := [.nils, .nils, .nils], offs := [0, 1, 2], fts := [50, 50, 50], fsz := [1, 1, 1], fok := true, zok := true } := by kernel_rfl
@[go_sem] theorem ty65 : tyI Tryz.prog 65 = { size := 3, bytes := 72, kind := .struct, zero := [.nils, .nils, .nils], offs := [0, 1, 2], fts := [50, 50, 50], fsz := [1, 1, 1], fok := true, zok := true } := by kernel_rfl
@[go_sem] theorem ty66 : tyI Tryz.prog 66 = { size := 1, bytes := 24, kind := (.slice 9), zero := [.nils], offs := [], fts := [], fsz := [], fok := true, zok := true } := by kernel_rfl
@[go_sem] theorem ty67 : tyI Tryz.prog 67 = { size := 15, bytes := 280, kind := .struct, zero := [(.int .u32 0), (.str ByteArray.empty), .nils, .nils, .nils, .nils, .nils, .nils, .nils, .nils, .nils, .nils, (.int .u32 0), (.bool false), (.int .i64 0)], offs := [0, 1, 2, 5, 6, 9, 10, 11, 12, 13, 14], fts := [25, 9, 62, 63, 65, 50, 50, 66, 25, 4, 3], fsz := [1, 1, 3, 1, 3, 1, 1, 1, 1, 1, 1], fok := true, zok := true } := by kernel_rfl
@[go_sem] theorem ty68 : tyI Tryz.prog 68 = { size := 15, bytes := 280, kind := .struct, zero := [(.int .u32 0), (.str ByteArray.empty), .nils, .nils, .nils, .nils, .nils, .nils, .nils, .nils, .nils, .nils, (.int .u32 0), (.bool false), (.int .i64 0)], offs := [0, 1, 2, 5, 6, 9, 10, 11, 12, 13, 14], fts := [25, 9, 62, 63, 65, 50, 50, 66, 25, 4, 3], fsz := [1, 1, 3, 1, 3, 1, 1, 1, 1, 1, 1], fok := true, zok := true } := by kernel_rfl
@[go_sem] theorem ty71 : tyI Tryz.prog 71 = { size := 1, bytes := 8, kind := (.ptr 152), zero := [.nilp], offs := [], fts := [], fsz := [], fok := true, zok := true } := by kernel_rfl
@[go_sem] theorem ty74 : tyI Tryz.prog 74 = { size := 15, bytes := 280, kind := .struct, zero := [(.int .u32 0), (.str ByteArray.empty), .nils, .nils, .nils, .nils, .nils, .nils, .nils, .nils, .nils, .nils, (.int .u32 0), (.bool false), (.int .i64 0)], offs := [0, 1, 2, 5, 6, 9, 10, 11, 12, 13, 14], fts := [25, 9, 62, 63, 65, 50, 50, 66, 25, 4, 3], fsz := [1, 1, 3, 1, 3, 1, 1, 1, 1, 1, 1], fok := true, zok := true } := by kernel_rfl
@[go_sem] theorem ty80 : tyI Tryz.prog 80 = { size := 1, bytes := 24, kind := (.slice 83), zero := [.nils], offs := [], fts := [], fsz := [], fok := true, zok := true } := by kernel_rfl
@[go_sem] theorem ty82 : tyI Tryz.prog 82 = { size := 6, bytes := 64, kind := .struct, zero := [(.int .u32 0), (.str ByteArray.empty), (.str ByteArray.empty), (.int .i64 0), (.int .i64 0), (.bool false)], offs := [0, 1, 2, 3, 4, 5], fts := [25, 9, 9, 3, 3, 4], fsz := [1, 1, 1, 1, 1, 1], fok := true, zok := true } := by kernel_rfl
@[go_sem] theorem ty83 : tyI Tryz.prog 83 = { size := 6, bytes := 64, kind := .struct, zero := [(.int .u32 0), (.str ByteArray.empty), (.str ByteArray.empty), (.int .i64 0), (.int .i64 0), (.bool false)], offs := [0, 1, 2, 3, 4, 5], fts := [25, 9, 9, 3, 3, 4], fsz := [1, 1, 1, 1, 1, 1], fok := true, zok := true } := by kernel_rfl
@[go_sem] theorem ty86 : tyI Tryz.prog 86 = { size := 9, bytes := 144, kind := .struct, zero := [.nils, .nils, .nils, .nils, (.int .i64 0), (.bool false), (.int .u32 0), (.int .u64 0), .nils], offs := [0, 3, 4, 5, 6, 7, 8], fts := [65, 50, 3, 4, 25, 51, 26], fsz := [3, 1, 1, 1, 1, 1, 1], fok := true, zok := true } := by kernel_rfl
@[go_sem] theorem ty87 : tyI Tryz.prog 87 = { size := 9, bytes := 144, kind := .struct, zero := [.nils, .nils, .nils, .nils, (.int .i64 0), (.bool false), (.int .u32 0), (.int .u64 0), .nils], offs := [0, 3, 4, 5, 6, 7, 8], fts := [65, 50, 3, 4, 25, 51, 26], fsz := [3, 1, 1, 1, 1, 1, 1], fok := true, zok := true } := by kernel_rfl
@[go_sem] theorem ty97 : tyI Tryz.prog 97 = { size := 1, bytes := 8, kind := (.ptr 180), zero := [.nilp], offs := [], fts := [], fsz := [], fok := true, zok := true } := by kernel_rfl
@[go_sem] theorem ty101 : tyI Tryz.prog 101 = { size := 9, bytes := 128, kind := .struct, zero := [(.int .u32 0), (.str ByteArray.empty), (.str ByteArray.empty), (.int .u32 0), (.int .u32 0), .nils, .nils, (.int .i64 0), .nils], offs := [0, 1, 2, 3, 4, 5, 6, 7, 8], fts := [25, 9, 9, 25, 25, 50, 50, 3, 26], fsz := [1, 1, 1, 1, 1, 1, 1, 1, 1], fok := true, zok := true } := by kernel_rfl
@[go_sem] theorem ty102 : tyI Tryz.prog 102 = { size := 9, bytes := 128, kind := .struct, zero := [(.int .u32 0), (.str ByteArray.empty), (.str ByteArray.empty), (.int .u32 0), (.int .u32 0), .nils, .nils, (.int .i64 0), .nils], offs := [0, 1, 2, 3, 4, 5, 6, 7, 8], fts := [25, 9, 9, 25, 25, 50, 50, 3, 26], fsz := [1, 1, 1, 1, 1, 1, 1, 1, 1], fok := true, zok := true } := by kernel_rfl
@[go_sem] theorem ty106 : tyI Tryz.prog 106 = { size := 1, bytes := 24, kind := (.slice 119), zero := [.nils], offs := [], fts := [], fsz := [], fok := true, zok := true } := by kernel_rfl
@[go_sem] theorem ty107 : tyI Tryz.prog 107 = { size := 3, bytes := 32, kind := .struct, zero := [(.bool false), (.int .u32 0), .nils], offs := [0, 1, 2], fts := [4, 25, 26], fsz := [1, 1, 1], fok := true, zok := true } := by kernel_rfl
@[go_sem] theorem ty108 : tyI Tryz.prog 108 = { size := 3, bytes := 32, kind := .struct, zero := [(.bool false), (.int .u32 0), .nils], offs := [0, 1, 2], fts := [4, 25, 26], fsz := [1, 1, 1], fok := true, zok := true } := by kernel_rfl
@[go_sem] theorem ty109 : tyI Tryz.prog 109 = { size := 17, bytes := 152, kind := .struct, zero := [(.int .i64 0), (.int .i64 0), (.int .i64 0), (.int .i64 0), (.int .i64 0), (.int .i64 0), (.int .u32 0), (.int .u32 0), (.int .u32 0), (.int .u64 0), (.int .u64 0), (.int .u64 0), (.int .u64 0), .nils, (.bool false), (.int .u32 0), .nils], offs := [0, 1, 2, 3, 4, 5, 6, 7, 8, 9, 10, 11, 12, 13, 14], fts := [3, 3, 3, 3, 3, 3, 25, 25, 25, 51, 51, 51, 51, 106, 108], fsz := [1, 1, 1, 1, 1, 1, 1, 1, 1, 1, 1, 1, 1, 1, 3], fok := true, zok := true } := by kernel_rfl
@[go_sem] theorem ty110 : tyI Tryz.prog 110 = { size := 17, bytes := 152, kind := .struct, zero := [(.int .i64 0), (.int .i64 0), (.int .i64 0), (.int .i64 0), (.int .i64 0), (.int .i64 0), (.int .u32 0), (.int .u32 0), (.int .u32 0), (.int .u64 0), (.int .u64 0), (.int .u64 0), (.int .u64 0), .nils, (.bool false), (.int .u32 0), .nils], offs := [0, 1, 2, 3, 4, 5, 6, 7, 8, 9, 10, 11, 12, 13, 14], fts := [3, 3, 3, 3, 3, 3, 25, 25, 25, 51, 51, 51, 51, 106, 108], fsz := [1, 1, 1, 1, 1, 1, 1, 1, 1, 1, 1, 1, 1, 1, 3], fok := true, zok := true } := by kernel_rfl
@[go_sem] theorem ty111 : tyI Tryz.prog 111 = { size := 2, bytes := 16, kind := .struct, zero := [(.int .i64 0), (.int .i64 0)], offs := [0, 1], fts := [3, 42], fsz := [1, 1], fok := true, zok := true } := by kernel_rfl
@[go_sem] theorem ty112 : tyI Tryz.prog 112 = { size := 2, bytes := 16, kind := .struct, zero := [(.int .i64 0), (.int .i64 0)], offs := [0, 1], fts := [3, 42], fsz := [1, 1], fok := true, zok := true } := by kernel_rfl
@[go_sem] theorem ty118 : tyI Tryz.prog 118 = { size := 8, bytes := 80, kind := .struct, zero := [(.int .i64 0), (.bool false), (.bool false), (.int .i64 0), (.int .u32 0), (.int .u32 0), .nils, .nils], offs := [0, 1, 2, 3, 4, 5, 6, 7], fts := [3, 4, 4, 3, 25, 25, 26, 26], fsz := [1, 1, 1, 1, 1, 1, 1, 1], fok := true, zok := true } := by kernel_rfl
@[go_sem] theorem ty119 : tyI Tryz.prog 119 = { size := 8, bytes := 80, kind := .struct, zero := [(.int .i64 0), (.bool false), (.bool false), (.int .i64 0), (.int .u32 0), (.int .u32 0), .nils, .nils], offs := [0, 1, 2, 3, 4, 5, 6, 7], fts := [3, 4, 4, 3, 25, 25, 26, 26], fsz := [1, 1, 1, 1, 1, 1, 1, 1], fok := true, zok := true } := by kernel_rfl
@[go_sem] theorem ty131 : tyI Tryz.prog 131 = { size := 1, bytes := 24, kind := (.slice 142), zero := [.nils], offs := [], fts := [], fsz := [], fok := true, zok := true } := by kernel_rfl
@[go_sem] theorem ty132 : tyI Tryz.prog 132 = { size := 4, bytes := 80, kind := .struct, zero := [.nils, (.int .i64 0), .nils, .nils], offs := [0, 1, 2, 3], fts := [131, 2, 33, 35], fsz := [1, 1, 1, 1], fok := true, zok := true } := by kernel_rfl
@[go_sem] theorem ty133 : tyI Tryz.prog 133 = { size := 4, bytes := 80, kind := .struct, zero := [.nils, (.int .i64 0), .nils, .nils], offs := [0, 1, 2, 3], fts := [131, 2, 33, 35], fsz := [1, 1, 1, 1], fok := true, zok := true } := by kernel_rfl
@[go_sem] theorem ty138 : tyI Tryz.prog 138 = { size := 1, bytes := 8, kind := (.ptr 142), zero := [.nilp], offs := [], fts := [], fsz := [], fok := true, zok := true } := by kernel_rfl
@[go_sem] theorem ty139 : tyI Tryz.prog 139 = { size := 2, bytes := 16, kind := .struct, zero := [(.int .u64 0), (.int .i64 0)], offs := [0, 1], fts := [51, 2], fsz := [1, 1], fok := true, zok := true } := by kernel_rfl
@[go_sem] theorem ty140 : tyI Tryz.prog 140 = { size := 2, bytes := 16, kind := .struct, zero := [(.int .u64 0), (.int .i64 0)], offs := [0, 1], fts := [51, 2], fsz := [1, 1], fok := true, zok := true } := by kernel_rfl
@[go_sem] theorem ty141 : tyI Tryz.prog 141 = { size := 5, bytes := 48, kind := .struct, zero := [(.int .u32 0), (.str ByteArray.empty), (.int .u64 0), (.int .i64 0), .nilp], offs := [0, 1, 2, 4], fts := [25, 9, 140, 71], fsz := [1, 1, 2, 1], fok := true, zok := true } := by kernel_rfl
@[go_sem] theorem ty142 : tyI Tryz.prog 142 = { size := 5, bytes := 48, kind := .struct, zero := [(.int .u32 0), (.str ByteArray.empty), (.int .u64 0), (.int .i64 0), .nilp], offs := [0, 1, 2, 4], fts := [25, 9, 140, 71], fsz := [1, 1, 2, 1], fok := true, zok := true } := by kernel_rfl
@[go_sem] theorem ty150 : tyI Tryz.prog 150 = { size := 1, bytes := 24, kind := (.slice 156), zero := [.nils], offs := [], fts := [], fsz := [], fok := true, zok := true } := by kernel_rfl
@[go_sem] theorem ty151 : tyI Tryz.prog 151 = { size := 18, bytes := 320, kind := .struct, zero := [(.int .u32 0), (.str ByteArray.empty), .nils, .nils, .nils, .nils, .nils, .nils, .nils, .nils, .nils, .nils, (.int .u32 0), (.bool false), (.int .i64 0), (.int .u32 0), .nilp, .nils], offs := [0, 15, 16, 17], fts := [74, 25, 97, 150], fsz := [15, 1, 1, 1], fok := true, zok := true } := by kernel_rfl
@[go_sem] theorem ty152 : tyI Tryz.prog 152 = { size := 18, bytes := 320, kind := .struct, zero := [(.int .u32 0), (.str ByteArray.empty), .nils, .nils, .nils, .nils, .nils, .nils, .nils, .nils, .nils, .nils, (.int .u32 0), (.bool false), (.int .i64 0), (.int .u32 0), .nilp, .nils], offs := [0, 15, 16, 17], fts := [74, 25, 97, 150], fsz := [15, 1, 1, 1], fok := true, zok := true } := by kernel_rfl
@[go_sem] theorem ty156 : tyI Tryz.prog 156 = { size := 1, bytes := 8, kind := (.ptr 161), zero := [.nilp], offs := [], fts := [], fsz := [], fok := true, zok := true } := by kernel_rfl
@[go_sem] theorem ty158 : tyI Tryz.prog 158 = { size := 1, bytes := 8, kind := (.ptr 231), zero := [.nilp], offs := [], fts := [], fsz := [], fok := true, zok := true } := by kernel_rfl
@[go_sem] theorem ty160 : tyI Tryz.prog 160 = { size := 15, bytes := 144, kind := .struct, zero := [(.int .u32 0), (.str ByteArray.empty), (.str ByteArray.empty), (.int .i64 0), (.int .i64 0), (.bool false), (.int .i64 0), (.bool false), (.int .u64 0), (.int .u32 0), (.int .u32 0), .nils, (.int .u32 0), (.int .u64 0), .nilp], offs := [0, 6, 7, 8, 9, 10, 11, 12, 13, 14], fts := [83, 3, 4, 51, 25, 25, 26, 25, 51, 158], fsz := [6, 1, 1, 1, 1, 1, 1, 1, 1, 1], fok := true, zok := true } := by kernel_rfl
@[go_sem] theorem ty161 : tyI Tryz.prog 161 = { size := 15, bytes := 144, kind := .struct, zero := [(.int .u32 0), (.str ByteArray.empty), (.str ByteArray.empty), (.int .i64 0), (.int .i64 0), (.bool false), (.int .i64 0), (.bool false), (.int .u64 0), (.int .u32 0), (.int .u32 0), .nils, (.int .u32 0), (.int .u64 0), .nilp], offs := [0, 6, 7, 8, 9, 10, 11, 12, 13, 14], fts := [83, 3, 4, 51, 25, 25, 26, 25, 51, 158], fsz := [6, 1, 1, 1, 1, 1, 1, 1, 1, 1], fok := true, zok := true } := by kernel_rfl
@[go_sem] theorem ty178 : tyI Tryz.prog 178 = { size := 1, bytes := 8, kind := (.map 182 3), zero := [.nilm], offs := [], fts := [], fsz := [], fok := true, zok := true } := by kernel_rfl
@[go_sem] theorem ty179 : tyI Tryz.prog 179 = { size := 3, bytes := 40, kind := .struct, zero := [(.int .i64 0), .nilm, .nils], offs := [0, 1, 2], fts := [3, 178, 63], fsz := [1, 1, 1], fok := true, zok := true } := by kernel_rfl
@[go_sem] theorem ty180 : tyI Tryz.prog 180 = { size := 3, bytes := 40, kind := .struct, zero := [(.int .i64 0), .nilm, .nils], offs := [0, 1, 2], fts := [3, 178, 63], fsz := [1, 1, 1], fok := true, zok := true } := by kernel_rfl
@[go_sem] theorem ty181 : tyI Tryz.prog 181 = { size := 2, bytes := 32, kind := .struct, zero := [(.str ByteArray.empty), (.str ByteArray.empty)], offs := [0, 1], fts := [9, 9], fsz := [1, 1], fok := true, zok := true } := by kernel_rfl
@[go_sem] theorem ty182 : tyI Tryz.prog 182 = { size := 2, bytes := 32, kind := .struct, zero := [(.str ByteArray.empty), (.str ByteArray.empty)], offs := [0, 1], fts := [9, 9], fsz := [1, 1], fok := true, zok := true } := by kernel_rfl
@[go_sem] theorem ty184 : tyI Tryz.prog 184 = { size := 1, bytes := 24, kind := (.slice 186), zero := [.nils], offs := [], fts := [], fsz := [], fok := true, zok := true } := by kernel_rfl
@[go_sem] theorem ty186 : tyI Tryz.prog 186 = { size := 1, bytes := 24, kind := (.slice 3), zero := [.nils], offs := [], fts := [], fsz := [], fok := true, zok := true } := by kernel_rfl
@[go_sem] theorem ty187 : tyI Tryz.prog 187 = { size := 1, bytes := 8, kind := (.map 3 3), zero := [.nilm], offs := [], fts := [], fsz := [], fok := true, zok := true } := by kernel_rfl
@[go_sem] theorem ty194 : tyI Tryz.prog 194 = { size := 32, bytes := 32, kind := (.array 32 5), zero := (List.replicate 32 (.int .u8 0)), offs := [], fts := [], fsz := [], fok := true, zok := true } := by kernel_rfl
@[go_sem] theorem ty201 : tyI Tryz.prog 201 = { size := 2, bytes := 16, kind := (.array 2 2), zero := [(.int .i64 0), (.int .i64 0)], offs := [], fts := [], fsz := [], fok := true, zok := true } := by kernel_rfl
@[go_sem] theorem ty203 : tyI Tryz.prog 203 = { size := 1, bytes := 24, kind := (.slice 74), zero := [.nils], offs := [], fts := [], fsz := [], fok := true, zok := true } := by kernel_rfl
@[go_sem] theorem ty204 : tyI Tryz.prog 204 = { size := 1, bytes := 24, kind := (.slice 140), zero := [.nils], offs := [], fts := [], fsz := [], fok := true, zok := true } := by kernel_rfl
@[go_sem] theorem ty205 : tyI Tryz.prog 205 = { size := 2, bytes := 16, kind := .struct, zero := [(.int .u64 0), (.int .i64 0)], offs := [0, 1], fts := [51, 2], fsz := [1, 1], fok := true, zok := true } := by kernel_rfl
@[go_sem] theorem ty211 : tyI Tryz.prog 211 = { size := 1, bytes := 24, kind := (.slice 218), zero := [.nils], offs := [], fts := [], fsz := [], fok := true, zok := true } := by kernel_rfl
@[go_sem] theorem ty212 : tyI Tryz.prog 212 = { size := 1, bytes := 24, kind := (.slice 2), zero := [.nils], offs := [], fts := [], fsz := [], fok := true, zok := true } := by kernel_rfl
@[go_sem] theorem ty217 : tyI Tryz.prog 217 = { size := 3, bytes := 24, kind := .struct, zero := [(.int .i64 0), (.int .i64 0), (.int .i64 0)], offs := [0, 1, 2], fts := [2, 2, 2], fsz := [1, 1, 1], fok := true, zok := true } := by kernel_rfl
@[go_sem] theorem ty218 : tyI Tryz.prog 218 = { size := 3, bytes := 24, kind := .struct, zero := [(.int .i64 0), (.int .i64 0), (.int .i64 0)], offs := [0, 1, 2], fts := [2, 2, 2], fsz := [1, 1, 1], fok := true, zok := true } := by kernel_rfl
@[go_sem] theorem ty229 : tyI Tryz.prog 229 = { size := 32, bytes := 256, kind := (.array 8 39), zero := (List.replicate 32 (.int .i64 0)), offs := [], fts := [], fsz := [], fok := true, zok := true } := by kernel_rfl
@[go_sem] theorem ty230 : tyI Tryz.prog 230 = { size := 33, bytes := 264, kind := .struct, zero := (List.replicate 33 (.int .i64 0)), offs := [0, 32], fts := [229, 3], fsz := [32, 1], fok := true, zok := true } := by kernel_rfl
@[go_sem] theorem ty231 : tyI Tryz.prog 231 = { size := 33, bytes := 264, kind := .struct, zero := (List.replicate 33 (.int .i64 0)), offs := [0, 32], fts := [229, 3], fsz := [32, 1], fok := true, zok := true } := by kernel_rfl
@[go_sem] theorem ty236 : tyI Tryz.prog 236 = { size := 1, bytes := 8, kind := (.ptr 238), zero := [.nilp], offs := [], fts := [], fsz := [], fok := true, zok := true } := by kernel_rfl
@[go_sem] theorem ty237 : tyI Tryz.prog 237 = { size := 4, bytes := 64, kind := .struct, zero := [(.int .u32 0), .nils, .nils, (.bool false)], offs := [0, 1, 2, 3], fts := [25, 26, 26, 4], fsz := [1, 1, 1, 1], fok := true, zok := true } := by kernel_rfl
@[go_sem] theorem ty238 : tyI Tryz.prog 238 = { size := 4, bytes := 64, kind := .struct, zero := [(.int .u32 0), .nils, .nils, (.bool false)], offs := [0, 1, 2, 3], fts := [25, 26, 26, 4], fsz := [1, 1, 1, 1], fok := true, zok := true } := by kernel_rfl
@[go_sem] theorem ty241 : tyI Tryz.prog 241 = { size := 4, bytes := 56, kind := .struct, zero := [(.int .u32 0), (.int .u32 0), .nils, .nils], offs := [0, 1, 2, 3], fts := [25, 25, 26, 26], fsz := [1, 1, 1, 1], fok := true, zok := true } := by kernel_rfl
@[go_sem] theorem ty242 : tyI Tryz.prog 242 = { size := 4, bytes := 56, kind := .struct, zero := [(.int .u32 0), (.int .u32 0), .nils, .nils], offs := [0, 1, 2, 3], fts := [25, 25, 26, 26], fsz := [1, 1, 1, 1], fok := true, zok := true } := by kernel_rfl
@[go_sem] theorem ty262 : tyI Tryz.prog 262 = { size := 1, bytes := 1, kind := (.int .i8), zero := [(.int .i8 0)], offs := [], fts := [], fsz := [], fok := true, zok := true } := by kernel_rfl
@[go_sem] theorem ty269 : tyI Tryz.prog 269 = { size := 1, bytes := 8, kind := (.ptr 326), zero := [.nilp], offs := [], fts := [], fsz := [], fok := true, zok := true } := by kernel_rfl
@[go_sem] theorem ty273 : tyI Tryz.prog 273 = { size := 1, bytes := 24, kind := (.slice 25), zero := [.nils], offs := [], fts := [], fsz := [], fok := true, zok := true } := by kernel_rfl
@[go_sem] theorem ty274 : tyI Tryz.prog 274 = { size := 4, bytes := 32, kind := (.array 2 140), zero := [(.int .u64 0), (.int .i64 0), (.int .u64 0), (.int .i64 0)], offs := [], fts := [], fsz := [], fok := true, zok := true } := by kernel_rfl
@[go_sem] theorem ty275 : tyI Tryz.prog 275 = { size := 1, bytes := 24, kind := (.slice 45), zero := [.nils], offs := [], fts := [], fsz := [], fok := true, zok := true } := by kernel_rfl
@[go_sem] theorem ty276 : tyI Tryz.prog 276 = { size := 1, bytes := 24, kind := (.slice 39), zero := [.nils], offs := [], fts := [], fsz := [], fok := true, zok := true } := by kernel_rfl
@[go_sem] theorem ty287 : tyI Tryz.prog 287 = { size := 1, bytes := 24, kind := (.slice 289), zero := [.nils], offs := [], fts := [], fsz := [], fok := true, zok := true } := by kernel_rfl
@[go_sem] theorem ty288 : tyI Tryz.prog 288 = { size := 3, bytes := 56, kind := .struct, zero := [(.int .i64 0), .nils, .nils], offs := [0, 1, 2], fts := [3, 26, 287], fsz := [1, 1, 1], fok := true, zok := true } := by kernel_rfl
@[go_sem] theorem ty289 : tyI Tryz.prog 289 = { size := 3, bytes := 56, kind := .struct, zero := [(.int .i64 0), .nils, .nils], offs := [0, 1, 2], fts := [3, 26, 287], fsz := [1, 1, 1], fok := true, zok := true } := by kernel_rfl
@[go_sem] theorem ty324 : tyI Tryz.prog 324 = { size := 8, bytes := 32, kind := (.array 8 25), zero := [(.int .u32 0), (.int .u32 0), (.int .u32 0), (.int .u32 0), (.int .u32 0), (.int .u32 0), (.int .u32 0), (.int .u32 0)], offs := [], fts := [], fsz := [], fok := true, zok := true } := by kernel_rfl
@[go_sem] theorem ty325 : tyI Tryz.prog 325 = { size := 11, bytes := 72, kind := .struct, zero := [(.bool false), (.int .u32 0), (.int .u32 0), (.int .u32 0), (.int .u32 0), (.int .u32 0), (.int .u32 0), (.int .u32 0), (.int .u32 0), .nils, (.int .i64 0)], offs := [0, 1, 9, 10], fts := [4, 324, 26, 3], fsz := [1, 8, 1, 1], fok := true, zok := true } := by kernel_rfl
@[go_sem] theorem ty326 : tyI Tryz.prog 326 = { size := 11, bytes := 72, kind := .struct, zero := [(.bool false), (.int .u32 0), (.int .u32 0), (.int .u32 0), (.int .u32 0), (.int .u32 0), (.int .u32 0), (.int .u32 0), (.int .u32 0), .nils, (.int .i64 0)], offs := [0, 1, 9, 10], fts := [4, 324, 26, 3], fsz := [1, 8, 1, 1], fok := true, zok := true } := by kernel_rfl
@[go_sem] theorem ty336 : tyI Tryz.prog 336 = { size := 1, bytes := 24, kind := (.slice 338), zero := [.nils], offs := [], fts := [], fsz := [], fok := true, zok := true } := by kernel_rfl
@[go_sem] theorem ty337 : tyI Tryz.prog 337 = { size := 2, bytes := 16, kind := .struct, zero := [(.int .i64 0), (.int .i64 0)], offs := [0, 1], fts := [2, 3], fsz := [1, 1], fok := true, zok := true } := by kernel_rfl
@[go_sem] theorem ty338 : tyI Tryz.prog 338 = { size := 2, bytes := 16, kind := .struct, zero := [(.int .i64 0), (.int .i64 0)], offs := [0, 1], fts := [2, 3], fsz := [1, 1], fok := true, zok := true } := by kernel_rfl
@[go_sem] theorem ty354 : tyI Tryz.prog 354 = { size := 3, bytes := 12, kind := (.array 3 25), zero := [(.int .u32 0), (.int .u32 0), (.int .u32 0)], offs := [], fts := [], fsz := [], fok := true, zok := true } := by kernel_rfl
@[go_sem] theorem ty355 : tyI Tryz.prog 355 = { size := 4, bytes := 4, kind := (.array 4 5), zero := [(.int .u8 0), (.int .u8 0), (.int .u8 0), (.int .u8 0)], offs := [], fts := [], fsz := [], fok := true, zok := true } := by kernel_rfl
@[go_sem] theorem ty366 : tyI Tryz.prog 366 = { size := 2, bytes := 32, kind := .struct, zero := [.nils, (.int .u64 0)], offs := [0, 1], fts := [50, 51], fsz := [1, 1], fok := true, zok := true } := by kernel_rfl
@[go_sem] theorem ty367 : tyI Tryz.prog 367 = { size := 2, bytes := 32, kind := .struct, zero := [.nils, (.int .u64 0)], offs := [0, 1], fts := [50, 51], fsz := [1, 1], fok := true, zok := true } := by kernel_rfl
@[go_sem] theorem ty377 : tyI Tryz.prog 377 = { size := 64, bytes := 256, kind := (.array 64 25), zero := (List.replicate 64 (.int .u32 0)), offs := [], fts := [], fsz := [], fok := true, zok := true } := by kernel_rfl
@[go_sem] theorem ty386 : tyI Tryz.prog 386 = { size := 1, bytes := 8, kind := (.ptr 3), zero := [.nilp], offs := [], fts := [], fsz := [], fok := true, zok := true } := by kernel_rfl
@[go_sem] theorem ty395 : tyI Tryz.prog 395 = { size := 3, bytes := 3, kind := (.array 3 4), zero := [(.bool false), (.bool false), (.bool false)], offs := [], fts := [], fsz := [], fok := true, zok := true } := by kernel_rfl
@[go_sem] theorem ty396 : tyI Tryz.prog 396 = { size := 5, bytes := 40, kind := (.array 5 42), zero := [(.int .i64 0), (.int .i64 0), (.int .i64 0), (.int .i64 0), (.int .i64 0)], offs := [], fts := [], fsz := [], fok := true, zok := true } := by kernel_rfl
@[go_sem] theorem ty410 : tyI Tryz.prog 410 = { size := 1, bytes := 8, kind := (.int .i64), zero := [(.int .i64 0)], offs := [], fts := [], fsz := [], fok := true, zok := true } := by kernel_rfl
@[go_sem] theorem ty419 : tyI Tryz.prog 419 = { size := 1, bytes := 8, kind := (.ptr 421), zero := [.nilp], offs := [], fts := [], fsz := [], fok := true, zok := true } := by kernel_rfl
@[go_sem] theorem ty420 : tyI Tryz.prog 420 = { size := 5, bytes := 56, kind := .struct, zero := [.nils, (.int .i64 0), (.int .i64 0), (.int .i64 0), (.int .i64 0)], offs := [0, 1, 2, 3], fts := [26, 3, 3, 112], fsz := [1, 1, 1, 2], fok := true, zok := true } := by kernel_rfl
@[go_sem] theorem ty421 : tyI Tryz.prog 421 = { size := 5, bytes := 56, kind := .struct, zero := [.nils, (.int .i64 0), (.int .i64 0), (.int .i64 0), (.int .i64 0)], offs := [0, 1, 2, 3], fts := [26, 3, 3, 112], fsz := [1, 1, 1, 2], fok := true, zok := true } := by kernel_rfl
@[go_sem] theorem ty427 : tyI Tryz.prog 427 = { size := 1, bytes := 8, kind := (.int .u64), zero := [(.int .u64 0)], offs := [], fts := [], fsz := [], fok := true, zok := true } := by kernel_rfl
@[go_sem] theorem ty436 : tyI Tryz.prog 436 = { size := 1, bytes := 8, kind := (.ptr 427), zero := [.nilp], offs := [], fts := [], fsz := [], fok := true, zok := true } := by kernel_rfl
@[go_sem] theorem ty439 : tyI Tryz.prog 439 = { size := 1, bytes := 8, kind := (.ptr 455), zero := [.nilp], offs := [], fts := [], fsz := [], fok := true, zok := true } := by kernel_rfl
@[go_sem] theorem ty441 : tyI Tryz.prog 441 = { size := 4, bytes := 40, kind := .struct, zero := [.nilp, .nilp, .nilp, (.str ByteArray.empty)], offs := [0, 1, 2, 3], fts := [17, 17, 17, 9], fsz := [1, 1, 1, 1], fok := true, zok := true } := by kernel_rfl
@[go_sem] theorem ty442 : tyI Tryz.prog 442 = { size := 4, bytes := 40, kind := .struct, zero := [.nilp, .nilp, .nilp, (.str ByteArray.empty)], offs := [0, 1, 2, 3], fts := [17, 17, 17, 9], fsz := [1, 1, 1, 1], fok := true, zok := true } := by kernel_rfl
@[go_sem] theorem ty443 : tyI Tryz.prog 443 = { size := 0, bytes := 0, kind := (.array 0 16), zero := [], offs := [], fts := [], fsz := [], fok := true, zok := true } := by kernel_rfl
@[go_sem] theorem ty444 : tyI Tryz.prog 444 = { size := 0, bytes := 0, kind := .struct, zero := [], offs := [0], fts := [443], fsz := [0], fok := true, zok := true } := by kernel_rfl
@[go_sem] theorem ty445 : tyI Tryz.prog 445 = { size := 0, bytes := 0, kind := .struct, zero := [], offs := [0], fts := [443], fsz := [0], fok := true, zok := true } := by kernel_rfl
@[go_sem] theorem ty446 : tyI Tryz.prog 446 = { size := 1, bytes := 1, kind := (.int .u8), zero := [(.int .u8 0)], offs := [], fts := [], fsz := [], fok := true, zok := true } := by kernel_rfl
@[go_sem] theorem ty447 : tyI Tryz.prog 447 = { size := 1, bytes := 1, kind := (.int .u8), zero := [(.int .u8 0)], offs := [], fts := [], fsz := [], fok := true, zok := true } := by kernel_rfl
@[go_sem] theorem ty449 : tyI Tryz.prog 449 = { size := 1, bytes := 8, kind := (.ptr 5), zero := [.nilp], offs := [], fts := [], fsz := [], fok := true, zok := true } := by kernel_rfl
@[go_sem] theorem ty450 : tyI Tryz.prog 450 = { size := 1, bytes := 4, kind := (.int .i32), zero := [(.int .i32 0)], offs := [], fts := [], fsz := [], fok := true, zok := true } := by kernel_rfl
@[go_sem] theorem ty451 : tyI Tryz.prog 451 = { size := 1, bytes := 4, kind := (.int .i32), zero := [(.int .i32 0)], offs := [], fts := [], fsz := [], fok := true, zok := true } := by kernel_rfl
@[go_sem] theorem ty452 : tyI Tryz.prog 452 = { size := 11, bytes := 48, kind := .struct, zero := [(.int .u64 0), (.int .u64 0), (.int .u32 0), (.int .u8 0), (.int .u8 0), (.int .u8 0), (.int .u8 0), .junk, .nilp, (.int .i32 0), (.int .i32 0)], offs := [0, 1, 2, 3, 4, 5, 6, 7, 8, 9, 10], fts := [12, 12, 25, 446, 5, 5, 447, 448, 449, 450, 451], fsz := [1, 1, 1, 1, 1, 1, 1, 1, 1, 1, 1], fok := true, zok := true } := by kernel_rfl
@[go_sem] theorem ty453 : tyI Tryz.prog 453 = { size := 11, bytes := 48, kind := .struct, zero := [(.int .u64 0), (.int .u64 0), (.int .u32 0), (.int .u8 0), (.int .u8 0), (.int .u8 0), (.int .u8 0), .junk, .nilp, (.int .i32 0), (.int .i32 0)], offs := [0, 1, 2, 3, 4, 5, 6, 7, 8, 9, 10], fts := [12, 12, 25, 446, 5, 5, 447, 448, 449, 450, 451], fsz := [1, 1, 1, 1, 1, 1, 1, 1, 1, 1, 1], fok := true, zok := true } := by kernel_rfl
@[go_sem] theorem ty454 : tyI Tryz.prog 454 = { size := 1, bytes := 16, kind := .struct, zero := [(.str ByteArray.empty)], offs := [0], fts := [9], fsz := [1], fok := true, zok := true } := by kernel_rfl
@[go_sem] theorem ty455 : tyI Tryz.prog 455 = { size := 1, bytes := 16, kind := .struct, zero := [(.str ByteArray.empty)], offs := [0], fts := [9], fsz := [1], fok := true, zok := true } := by kernel_rfl
end Go.Av
end

section
set_option linter.unusedVariables false
set_option maxRecDepth 100000
namespace Go.Av
open Go.Proofs
@[go_sem] theorem kk182 : kkOf Tryz.prog 182 = some (.s2 9 9) := by kernel_rfl
@[go_sem] theorem kk3 : kkOf Tryz.prog 3 = some (.int .i64) := by kernel_rfl
@[go_sem] theorem zA3 : zA Tryz.prog 3 = some (.int .i64 0) := by kernel_rfl
attribute [go_sem] List.replicate_one List.flatten_cons
@[go_sem] theorem maxLen_val : maxLen = 9223372036854775807 := rfl
end Go.Av
end

section
set_option linter.unusedVariables false
namespace Go.Av
def blen (n : Nat) : Nat := if n = 0 then 0 else n.log2 + 1
theorem log2_shift : ∀ (k n : Nat), 2 ^ k ≤ n → n.log2 = k + (n / 2 ^ k).log2
  | 0, n, _ => by simp
  | k + 1, n, h => by
    have h2 : 2 ≤ n := by
      have : 2 ^ 1 ≤ 2 ^ (k + 1) := Nat.pow_le_pow_right (by omega) (by omega)
      omega
    have h3 : 2 ^ k ≤ n / 2 := by
      rw [Nat.le_div_iff_mul_le (by omega)]
      rw [Nat.pow_succ] at h; exact h
    rw [Nat.log2_def, if_pos h2, log2_shift k (n / 2) h3, Nat.div_div_eq_div_mul, Nat.pow_succ, Nat.mul_comm 2]
    omega
theorem blen_shift (k n : Nat) (h : 2 ^ k ≤ n) : blen n = k + blen (n / 2 ^ k) := by
  have hp : 0 < 2 ^ k := Nat.pos_of_ne_zero (by simp)
  have h1 : n ≠ 0 := by omega
  have h2 : n / 2 ^ k ≠ 0 := by
    have := Nat.div_pos h hp
    omega
  simp only [blen, if_neg h1, if_neg h2, log2_shift k n h]
  omega
theorem blen_le {k n : Nat} (h : n < 2 ^ k) : blen n ≤ k := by
  unfold blen
  split
  · omega
  · rename_i h0
    have := (Nat.log2_lt h0).2 h
    omega
end Go.Av
end

section
set_option linter.unusedVariables false
namespace Go.Av
theorem flat_len {α β : Type} {f : α → List β} {k : Nat} : ∀ {l : List α}, (∀ x ∈ l, (f x).length = k) → (l.flatMap f).length = l.length * k
  | [], _ => by simp
  | x :: l, h => by
    rw [List.flatMap_cons, List.length_append, h x (by simp), flat_len (fun y hy => h y (by simp [hy])), List.length_cons, Nat.succ_mul, Nat.add_comm]
theorem flat_at {α β : Type} {f : α → List β} {k : Nat} : ∀ {l : List α} {i : Nat} {x : α}, (∀ x ∈ l, (f x).length = k) → l[i]? = some x → ((l.flatMap f).drop (i * k)).take k = f x
  | [], i, x, _, h => by simp at h
  | y :: l, 0, x, hk, h => by
    simp at h
    subst h
    have := hk y (by simp)
    simp [List.flatMap_cons, ← this]
  | y :: l, i + 1, x, hk, h => by
    have hy := hk y (by simp)
    rw [List.flatMap_cons, Nat.succ_mul, Nat.add_comm, ← hy, List.drop_append, List.drop_of_length_le (by omega), List.nil_append, Nat.add_sub_cancel_left, hy]
    exact flat_at (fun z hz => hk z (by simp [hz])) (by simpa using h)
end Go.Av
end

section
set_option linter.unusedVariables false
namespace Go.Av
theorem flat_set {α β : Type} {f : α → List β} {k : Nat} : ∀ {l : List α} {i : Nat} {x : α}, (∀ x, (f x).length = k) → i < l.length →
    (l.flatMap f).take (i * k) ++ f x ++ (l.flatMap f).drop (i * k + (f x).length) = (l.set i x).flatMap f
  | [], i, x, _, h => by simp at h
  | y :: l, 0, x, hk, h => by
    simp only [Nat.zero_mul, List.take_zero, List.nil_append, Nat.zero_add, List.set_cons_zero, List.flatMap_cons]
    rw [hk x, ← hk y]
    simp
  | y :: l, i + 1, x, hk, h => by
    have hy := hk y
    have e : (i + 1) * k = (f y).length + i * k := by rw [hy, Nat.succ_mul, Nat.add_comm]
    simp only [List.flatMap_cons, List.set_cons_succ]
    rw [e, List.take_append, List.take_of_length_le (by omega), Nat.add_sub_cancel_left, Nat.add_assoc, List.drop_append, List.drop_of_length_le (by omega), List.nil_append, Nat.add_sub_cancel_left,
      ← flat_set (l := l) (i := i) (x := x) hk (by simpa using h), List.append_assoc, List.append_assoc, List.append_assoc]
theorem flat_getD {α β : Type} {f : α → List β} {k : Nat} {d : β} {l : List α} {i j : Nat} (hk : ∀ x, (f x).length = k) (hi : i < l.length) (hj : j < k) : (l.flatMap f).getD (i * k + j) d = (f l[i]).getD j d := by
  have h := flat_at (f := f) (l := l) (i := i) (x := l[i]) (fun x _ => hk x) (by simp [hi])
  rw [← h]
  simp [List.getD, List.getElem?_take, hj, List.getElem?_drop]
end Go.Av
end

section
set_option linter.unusedVariables false
set_option linter.unusedSimpArgs false
namespace Go.Av

/-- all objects but some are as they were -/
def Same (S : List Nat) (H H' : Heap) : Prop := H.length ≤ H'.length ∧ ∀ i, i < H.length → i ∉ S → H'[i]? = H[i]?
theorem Same.refl {S : List Nat} {H : Heap} : Same S H H := ⟨Nat.le_refl _, fun _ _ _ => rfl⟩
theorem Same.trans {S : List Nat} {H H' H'' : Heap} (h : Same S H H') (k : Same S H' H'') : Same S H H'' :=
  ⟨Nat.le_trans h.1 k.1, fun i hi hs => (k.2 i (Nat.lt_of_lt_of_le hi h.1) hs).trans (h.2 i hi hs)⟩
theorem Same.app {S : List Nat} {H L : Heap} : Same S H (H ++ L) := ⟨by simp, fun i hi _ => List.getElem?_append_left hi⟩
theorem Same.set {S : List Nat} {H H' : Heap} {i : Nat} {o : Obj} (h : Same S H H') (hi : i ∈ S ∨ H.length ≤ i) : Same S H (H'.set i o) :=
  ⟨by simpa using h.1, fun j hj hs => by
    have : i ≠ j := by rintro rfl; rcases hi with h1 | h1 <;> first | exact hs h1 | omega
    rw [List.getElem?_set_ne this]; exact h.2 j hj hs⟩
theorem Same.push {S : List Nat} {H H' L : Heap} (h : Same S H H') : Same S H (H' ++ L) := h.trans Same.app
theorem Same.mono {S S' : List Nat} {H H' : Heap} (h : Same S H H') (hs : ∀ i, i ∈ S → i ∈ S' ∨ H.length ≤ i) : Same S' H H' :=
  ⟨h.1, fun i hi hn => h.2 i hi fun hm => by rcases hs i hm with h1 | h1 <;> first | exact hn h1 | omega⟩
theorem Same.trans' {S S' : List Nat} {H H' H'' : Heap} (h : Same S H H') (k : Same S' H' H'') (hs : ∀ i, i ∈ S' → i ∈ S ∨ H.length ≤ i) : Same S H H'' :=
  ⟨Nat.le_trans h.1 k.1, fun i hi hn => (k.2 i (Nat.lt_of_lt_of_le hi h.1) fun hm => by rcases hs i hm with h1 | h1 <;> first | exact hn h1 | omega).trans (h.2 i hi hn)⟩
theorem Same.get {S : List Nat} {H H' : Heap} (h : Same S H H') {i : Nat} {o : Obj} (ho : H[i]? = some o) (hs : i ∉ S) : H'[i]? = some o := by
  rw [h.2 i (List.getElem?_eq_some_iff.1 ho).1 hs, ho]
theorem hp_lt {H : Heap} {i : Nat} {o : Obj} (h : H[i]? = some o) : i < H.length := (List.getElem?_eq_some_iff.1 h).1
theorem hp_getL {H L : Heap} {i : Nat} (h : i < H.length) : (H ++ L)[i]? = H[i]? := List.getElem?_append_left h
theorem hp_setL {H L : Heap} {i : Nat} {o : Obj} (h : i < H.length) : (H ++ L).set i o = H.set i o ++ L := List.set_append_left _ _ h
theorem hp_ne {H : Heap} {i j : Nat} {o : Obj} (h : i ≠ j) : (H.set i o)[j]? = H[j]? := List.getElem?_set_ne h
theorem hp_eq {H : Heap} {i : Nat} {o : Obj} (h : i < H.length) : (H.set i o)[i]? = some o := List.getElem?_set_self h
theorem hp_getS0 {H L : Heap} {j : Nat} {o : Obj} : (H.set j o ++ L)[H.length]? = L[0]? := by
  rw [List.getElem?_append_right (by simp), List.length_set, Nat.sub_self]
theorem hp_getSk {H L : Heap} {j k : Nat} {o : Obj} : (H.set j o ++ L)[H.length + k]? = L[k]? := by
  rw [List.getElem?_append_right (by simp), List.length_set, Nat.add_sub_cancel_left]
theorem hp_setS0 {H L : Heap} {j : Nat} {o p : Obj} : (H.set j o ++ L).set H.length p = H.set j o ++ L.set 0 p := by
  rw [List.set_append_right _ _ (by simp), List.length_set, Nat.sub_self]
theorem hp_setSk {H L : Heap} {j k : Nat} {o p : Obj} : (H.set j o ++ L).set (H.length + k) p = H.set j o ++ L.set k p := by
  rw [List.set_append_right _ _ (by simp), List.length_set, Nat.add_sub_cancel_left]

end Go.Av
end
