/- What the types of the translated program are, as the walk asks for it. -/
import Derived.KernelRfl
import Derived.Test.YtcebmjajnbafoaaGreatDoorProg
import Derived.Test.YtcebmjajnbafoaaGreatDoorLC
set_option linter.unusedVariables false
set_option linter.unusedSimpArgs false
set_option maxRecDepth 8000
set_option maxHeartbeats 16000000
namespace Go.Proofs.YtcebmjajnbafoaaGreatDoor
open Go Go.Sx
theorem szo2 : szo Tryz.prog 2 = some 1 := by kernel_rfl
theorem aggo2 : aggo Tryz.prog 2 = some false := by kernel_rfl
theorem zero2 : zeroL Tryz.prog 2 = some ([.v (.int .i64 0)]) := by kernel_rfl
theorem und2 : Tryz.prog.underlying 2 = some (.int .i64) := by kernel_rfl
theorem szo3 : szo Tryz.prog 3 = some 1 := by kernel_rfl
theorem aggo3 : aggo Tryz.prog 3 = some false := by kernel_rfl
theorem zero3 : zeroL Tryz.prog 3 = some ([.v (.int .i64 0)]) := by kernel_rfl
theorem und3 : Tryz.prog.underlying 3 = some (.int .i64) := by kernel_rfl
theorem szo4 : szo Tryz.prog 4 = some 1 := by kernel_rfl
theorem aggo4 : aggo Tryz.prog 4 = some false := by kernel_rfl
theorem zero4 : zeroL Tryz.prog 4 = some ([.v (.bool false)]) := by kernel_rfl
theorem und4 : Tryz.prog.underlying 4 = some .bool := by kernel_rfl
theorem szo5 : szo Tryz.prog 5 = some 1 := by kernel_rfl
theorem aggo5 : aggo Tryz.prog 5 = some false := by kernel_rfl
theorem zero5 : zeroL Tryz.prog 5 = some ([.v (.int .u8 0)]) := by kernel_rfl
theorem und5 : Tryz.prog.underlying 5 = some (.int .u8) := by kernel_rfl
theorem szo6 : szo Tryz.prog 6 = some 1 := by kernel_rfl
theorem aggo6 : aggo Tryz.prog 6 = some false := by kernel_rfl
theorem zero6 : zeroL Tryz.prog 6 = some ([.v (.int .u8 0)]) := by kernel_rfl
theorem und6 : Tryz.prog.underlying 6 = some (.int .u8) := by kernel_rfl
theorem szo7 : szo Tryz.prog 7 = some 4 := by kernel_rfl
theorem aggo7 : aggo Tryz.prog 7 = some true := by kernel_rfl
theorem zero7 : zeroL Tryz.prog 7 = some ([.v (.int .i64 0), .v (.int .i64 0), .v (.bool false), .v (.int .u8 0)]) := by kernel_rfl
theorem bld7 : bld Tryz.prog 7 = some (.st [(0, 1), (1, 1), (2, 1), (3, 1)]) := by kernel_rfl
theorem foff7_0 : foff Tryz.prog 7 0 = some 0 := by kernel_rfl
theorem ftyp7_0 : ftyp Tryz.prog 7 0 = some (2, 0) := by kernel_rfl
theorem foff7_1 : foff Tryz.prog 7 1 = some 1 := by kernel_rfl
theorem ftyp7_1 : ftyp Tryz.prog 7 1 = some (3, 1) := by kernel_rfl
theorem foff7_2 : foff Tryz.prog 7 2 = some 2 := by kernel_rfl
theorem ftyp7_2 : ftyp Tryz.prog 7 2 = some (4, 2) := by kernel_rfl
theorem foff7_3 : foff Tryz.prog 7 3 = some 3 := by kernel_rfl
theorem ftyp7_3 : ftyp Tryz.prog 7 3 = some (6, 3) := by kernel_rfl
theorem eqo7 : eqo Tryz.prog 7 = some [.i .i64, .i .i64, .b, .i .u8] := by kernel_rfl
theorem szo8 : szo Tryz.prog 8 = some 4 := by kernel_rfl
theorem aggo8 : aggo Tryz.prog 8 = some true := by kernel_rfl
theorem zero8 : zeroL Tryz.prog 8 = some ([.v (.int .i64 0), .v (.int .i64 0), .v (.bool false), .v (.int .u8 0)]) := by kernel_rfl
theorem bld8 : bld Tryz.prog 8 = some (.st [(0, 1), (1, 1), (2, 1), (3, 1)]) := by kernel_rfl
theorem foff8_0 : foff Tryz.prog 8 0 = some 0 := by kernel_rfl
theorem ftyp8_0 : ftyp Tryz.prog 8 0 = some (2, 0) := by kernel_rfl
theorem foff8_1 : foff Tryz.prog 8 1 = some 1 := by kernel_rfl
theorem ftyp8_1 : ftyp Tryz.prog 8 1 = some (3, 1) := by kernel_rfl
theorem foff8_2 : foff Tryz.prog 8 2 = some 2 := by kernel_rfl
theorem ftyp8_2 : ftyp Tryz.prog 8 2 = some (4, 2) := by kernel_rfl
theorem foff8_3 : foff Tryz.prog 8 3 = some 3 := by kernel_rfl
theorem ftyp8_3 : ftyp Tryz.prog 8 3 = some (6, 3) := by kernel_rfl
theorem eqo8 : eqo Tryz.prog 8 = some [.i .i64, .i .i64, .b, .i .u8] := by kernel_rfl
theorem szo9 : szo Tryz.prog 9 = some 1 := by kernel_rfl
theorem aggo9 : aggo Tryz.prog 9 = some false := by kernel_rfl
theorem zero9 : zeroL Tryz.prog 9 = some ([.v (.string ByteArray.empty)]) := by kernel_rfl
theorem und9 : Tryz.prog.underlying 9 = some .string := by kernel_rfl
theorem szo10 : szo Tryz.prog 10 = some 1 := by kernel_rfl
theorem aggo10 : aggo Tryz.prog 10 = some false := by kernel_rfl
theorem zero10 : zeroL Tryz.prog 10 = some ([.v (.string ByteArray.empty)]) := by kernel_rfl
theorem und10 : Tryz.prog.underlying 10 = some .string := by kernel_rfl
theorem szo11 : szo Tryz.prog 11 = some 1 := by kernel_rfl
theorem aggo11 : aggo Tryz.prog 11 = some false := by kernel_rfl
theorem zero11 : zeroL Tryz.prog 11 = some ([.v (.string ByteArray.empty)]) := by kernel_rfl
theorem und11 : Tryz.prog.underlying 11 = some .string := by kernel_rfl
theorem szo12 : szo Tryz.prog 12 = some 1 := by kernel_rfl
theorem aggo12 : aggo Tryz.prog 12 = some false := by kernel_rfl
theorem zero12 : zeroL Tryz.prog 12 = some ([.v (.int .u64 0)]) := by kernel_rfl
theorem und12 : Tryz.prog.underlying 12 = some (.int .u64) := by kernel_rfl
theorem szo13 : szo Tryz.prog 13 = some 2 := by kernel_rfl
theorem aggo13 : aggo Tryz.prog 13 = some true := by kernel_rfl
theorem zero13 : zeroL Tryz.prog 13 = some ([.v (.string ByteArray.empty), .v (.int .u64 0)]) := by kernel_rfl
theorem bld13 : bld Tryz.prog 13 = some (.st [(0, 1), (1, 1)]) := by kernel_rfl
theorem foff13_0 : foff Tryz.prog 13 0 = some 0 := by kernel_rfl
theorem ftyp13_0 : ftyp Tryz.prog 13 0 = some (9, 0) := by kernel_rfl
theorem foff13_1 : foff Tryz.prog 13 1 = some 1 := by kernel_rfl
theorem ftyp13_1 : ftyp Tryz.prog 13 1 = some (12, 1) := by kernel_rfl
theorem szo14 : szo Tryz.prog 14 = some 2 := by kernel_rfl
theorem aggo14 : aggo Tryz.prog 14 = some true := by kernel_rfl
theorem zero14 : zeroL Tryz.prog 14 = some ([.v (.string ByteArray.empty), .v (.int .u64 0)]) := by kernel_rfl
theorem bld14 : bld Tryz.prog 14 = some (.st [(0, 1), (1, 1)]) := by kernel_rfl
theorem foff14_0 : foff Tryz.prog 14 0 = some 0 := by kernel_rfl
theorem ftyp14_0 : ftyp Tryz.prog 14 0 = some (9, 0) := by kernel_rfl
theorem foff14_1 : foff Tryz.prog 14 1 = some 1 := by kernel_rfl
theorem ftyp14_1 : ftyp Tryz.prog 14 1 = some (12, 1) := by kernel_rfl
theorem szo15 : szo Tryz.prog 15 = some 1 := by kernel_rfl
theorem aggo15 : aggo Tryz.prog 15 = some false := by kernel_rfl
theorem zero15 : zeroL Tryz.prog 15 = some ([.v (.pointer none)]) := by kernel_rfl
theorem szo16 : szo Tryz.prog 16 = some 1 := by kernel_rfl
theorem aggo16 : aggo Tryz.prog 16 = some false := by kernel_rfl
theorem zero16 : zeroL Tryz.prog 16 = some ([.v (.pointer none)]) := by kernel_rfl
theorem szo17 : szo Tryz.prog 17 = some 1 := by kernel_rfl
theorem aggo17 : aggo Tryz.prog 17 = some false := by kernel_rfl
theorem zero17 : zeroL Tryz.prog 17 = some ([.v (.pointer none)]) := by kernel_rfl
theorem szo18 : szo Tryz.prog 18 = some 1 := by kernel_rfl
theorem aggo18 : aggo Tryz.prog 18 = some true := by kernel_rfl
theorem zero18 : zeroL Tryz.prog 18 = some ([.v (.pointer none)]) := by kernel_rfl
theorem bld18 : bld Tryz.prog 18 = some (.st [(0, 1)]) := by kernel_rfl
theorem foff18_0 : foff Tryz.prog 18 0 = some 0 := by kernel_rfl
theorem ftyp18_0 : ftyp Tryz.prog 18 0 = some (17, 0) := by kernel_rfl
theorem szo19 : szo Tryz.prog 19 = some 1 := by kernel_rfl
theorem aggo19 : aggo Tryz.prog 19 = some true := by kernel_rfl
theorem zero19 : zeroL Tryz.prog 19 = some ([.v (.pointer none)]) := by kernel_rfl
theorem bld19 : bld Tryz.prog 19 = some (.st [(0, 1)]) := by kernel_rfl
theorem foff19_0 : foff Tryz.prog 19 0 = some 0 := by kernel_rfl
theorem ftyp19_0 : ftyp Tryz.prog 19 0 = some (17, 0) := by kernel_rfl
theorem szo21 : szo Tryz.prog 21 = some 1 := by kernel_rfl
theorem aggo21 : aggo Tryz.prog 21 = some false := by kernel_rfl
theorem zero21 : zeroL Tryz.prog 21 = some ([.v (.int .i32 0)]) := by kernel_rfl
theorem und21 : Tryz.prog.underlying 21 = some (.int .i32) := by kernel_rfl
theorem szo22 : szo Tryz.prog 22 = some 1 := by kernel_rfl
theorem aggo22 : aggo Tryz.prog 22 = some false := by kernel_rfl
theorem zero22 : zeroL Tryz.prog 22 = some ([.v (.slice none 0 0)]) := by kernel_rfl
theorem rowo22 : rowo Tryz.prog 22 = some (false, 0, 1) := by kernel_rfl
theorem slo22 : slo Tryz.prog 22 = some (5, 1, 1) := by kernel_rfl
theorem slTy22 : slTy Tryz.prog 22 = true := by kernel_rfl
theorem szo24 : szo Tryz.prog 24 = some 1 := by kernel_rfl
theorem aggo24 : aggo Tryz.prog 24 = some false := by kernel_rfl
theorem zero24 : zeroL Tryz.prog 24 = some ([.v (.slice none 0 0)]) := by kernel_rfl
theorem rowo24 : rowo Tryz.prog 24 = some (false, 0, 3) := by kernel_rfl
theorem slo24 : slo Tryz.prog 24 = some (42, 3, 4) := by kernel_rfl
theorem slTy24 : slTy Tryz.prog 24 = true := by kernel_rfl
theorem szo25 : szo Tryz.prog 25 = some 1 := by kernel_rfl
theorem aggo25 : aggo Tryz.prog 25 = some false := by kernel_rfl
theorem zero25 : zeroL Tryz.prog 25 = some ([.v (.slice none 0 0)]) := by kernel_rfl
theorem rowo25 : rowo Tryz.prog 25 = some (false, 0, 3) := by kernel_rfl
theorem slo25 : slo Tryz.prog 25 = some (42, 3, 4) := by kernel_rfl
theorem slTy25 : slTy Tryz.prog 25 = true := by kernel_rfl
theorem szo34 : szo Tryz.prog 34 = some 1 := by kernel_rfl
theorem aggo34 : aggo Tryz.prog 34 = some false := by kernel_rfl
theorem zero34 : zeroL Tryz.prog 34 = some ([.v (.slice none 0 0)]) := by kernel_rfl
theorem rowo34 : rowo Tryz.prog 34 = some (false, 0, 1) := by kernel_rfl
theorem slo34 : slo Tryz.prog 34 = some (2, 1, 8) := by kernel_rfl
theorem slTy34 : slTy Tryz.prog 34 = true := by kernel_rfl
theorem szo39 : szo Tryz.prog 39 = some 1 := by kernel_rfl
theorem aggo39 : aggo Tryz.prog 39 = some false := by kernel_rfl
theorem zero39 : zeroL Tryz.prog 39 = some ([.v (.int .i16 0)]) := by kernel_rfl
theorem und39 : Tryz.prog.underlying 39 = some (.int .i16) := by kernel_rfl
theorem szo40 : szo Tryz.prog 40 = some 1 := by kernel_rfl
theorem aggo40 : aggo Tryz.prog 40 = some false := by kernel_rfl
theorem zero40 : zeroL Tryz.prog 40 = some ([.v (.int .i8 0)]) := by kernel_rfl
theorem und40 : Tryz.prog.underlying 40 = some (.int .i8) := by kernel_rfl
theorem szo41 : szo Tryz.prog 41 = some 3 := by kernel_rfl
theorem aggo41 : aggo Tryz.prog 41 = some true := by kernel_rfl
theorem zero41 : zeroL Tryz.prog 41 = some ([.v (.int .i16 0), .v (.int .i8 0), .v (.int .i8 0)]) := by kernel_rfl
theorem bld41 : bld Tryz.prog 41 = some (.st [(0, 1), (1, 1), (2, 1)]) := by kernel_rfl
theorem foff41_0 : foff Tryz.prog 41 0 = some 0 := by kernel_rfl
theorem ftyp41_0 : ftyp Tryz.prog 41 0 = some (39, 0) := by kernel_rfl
theorem foff41_1 : foff Tryz.prog 41 1 = some 1 := by kernel_rfl
theorem ftyp41_1 : ftyp Tryz.prog 41 1 = some (40, 1) := by kernel_rfl
theorem foff41_2 : foff Tryz.prog 41 2 = some 2 := by kernel_rfl
theorem ftyp41_2 : ftyp Tryz.prog 41 2 = some (40, 2) := by kernel_rfl
theorem eqo41 : eqo Tryz.prog 41 = some [.i .i16, .i .i8, .i .i8] := by kernel_rfl
theorem szo42 : szo Tryz.prog 42 = some 3 := by kernel_rfl
theorem aggo42 : aggo Tryz.prog 42 = some true := by kernel_rfl
theorem zero42 : zeroL Tryz.prog 42 = some ([.v (.int .i16 0), .v (.int .i8 0), .v (.int .i8 0)]) := by kernel_rfl
theorem bld42 : bld Tryz.prog 42 = some (.st [(0, 1), (1, 1), (2, 1)]) := by kernel_rfl
theorem foff42_0 : foff Tryz.prog 42 0 = some 0 := by kernel_rfl
theorem ftyp42_0 : ftyp Tryz.prog 42 0 = some (39, 0) := by kernel_rfl
theorem foff42_1 : foff Tryz.prog 42 1 = some 1 := by kernel_rfl
theorem ftyp42_1 : ftyp Tryz.prog 42 1 = some (40, 1) := by kernel_rfl
theorem foff42_2 : foff Tryz.prog 42 2 = some 2 := by kernel_rfl
theorem ftyp42_2 : ftyp Tryz.prog 42 2 = some (40, 2) := by kernel_rfl
theorem eqo42 : eqo Tryz.prog 42 = some [.i .i16, .i .i8, .i .i8] := by kernel_rfl
theorem szo51 : szo Tryz.prog 51 = some 1 := by kernel_rfl
theorem aggo51 : aggo Tryz.prog 51 = some false := by kernel_rfl
theorem zero51 : zeroL Tryz.prog 51 = some ([.v (.pointer none)]) := by kernel_rfl
theorem szo54 : szo Tryz.prog 54 = some 1 := by kernel_rfl
theorem aggo54 : aggo Tryz.prog 54 = some false := by kernel_rfl
theorem zero54 : zeroL Tryz.prog 54 = some ([.v (.slice none 0 0)]) := by kernel_rfl
theorem rowo54 : rowo Tryz.prog 54 = some (false, 0, 1) := by kernel_rfl
theorem slo54 : slo Tryz.prog 54 = some (9, 1, 16) := by kernel_rfl
theorem slTy54 : slTy Tryz.prog 54 = true := by kernel_rfl
theorem szo81 : szo Tryz.prog 81 = some 1 := by kernel_rfl
theorem aggo81 : aggo Tryz.prog 81 = some false := by kernel_rfl
theorem zero81 : zeroL Tryz.prog 81 = some ([.v (.slice none 0 0)]) := by kernel_rfl
theorem rowo81 : rowo Tryz.prog 81 = some (false, 0, 3) := by kernel_rfl
theorem slo81 : slo Tryz.prog 81 = some (82, 3, 24) := by kernel_rfl
theorem slTy81 : slTy Tryz.prog 81 = true := by kernel_rfl
theorem szo82 : szo Tryz.prog 82 = some 3 := by kernel_rfl
theorem aggo82 : aggo Tryz.prog 82 = some true := by kernel_rfl
theorem zero82 : zeroL Tryz.prog 82 = some ([.v (.int .i64 0), .v (.int .i64 0), .v (.int .i64 0)]) := by kernel_rfl
theorem rowo82 : rowo Tryz.prog 82 = some (true, 3, 1) := by kernel_rfl
theorem etyp82 : etyp Tryz.prog 82 = some (3, 2, 1) := by kernel_rfl
theorem bld82 : bld Tryz.prog 82 = some (.ar 1) := by kernel_rfl
theorem eqo82 : eqo Tryz.prog 82 = some [.i .i64, .i .i64, .i .i64] := by kernel_rfl
theorem szo87 : szo Tryz.prog 87 = some 1 := by kernel_rfl
theorem aggo87 : aggo Tryz.prog 87 = some false := by kernel_rfl
theorem zero87 : zeroL Tryz.prog 87 = some ([.v (.int .u64 0)]) := by kernel_rfl
theorem und87 : Tryz.prog.underlying 87 = some (.int .u64) := by kernel_rfl
theorem szo88 : szo Tryz.prog 88 = some 3 := by kernel_rfl
theorem aggo88 : aggo Tryz.prog 88 = some true := by kernel_rfl
theorem zero88 : zeroL Tryz.prog 88 = some ([.v (.slice none 0 0), .v (.int .i64 0), .v (.int .u64 0)]) := by kernel_rfl
theorem bld88 : bld Tryz.prog 88 = some (.st [(0, 1), (1, 1), (2, 1)]) := by kernel_rfl
theorem foff88_0 : foff Tryz.prog 88 0 = some 0 := by kernel_rfl
theorem ftyp88_0 : ftyp Tryz.prog 88 0 = some (22, 0) := by kernel_rfl
theorem foff88_1 : foff Tryz.prog 88 1 = some 1 := by kernel_rfl
theorem ftyp88_1 : ftyp Tryz.prog 88 1 = some (3, 1) := by kernel_rfl
theorem foff88_2 : foff Tryz.prog 88 2 = some 2 := by kernel_rfl
theorem ftyp88_2 : ftyp Tryz.prog 88 2 = some (87, 2) := by kernel_rfl
theorem szo89 : szo Tryz.prog 89 = some 3 := by kernel_rfl
theorem aggo89 : aggo Tryz.prog 89 = some true := by kernel_rfl
theorem zero89 : zeroL Tryz.prog 89 = some ([.v (.slice none 0 0), .v (.int .i64 0), .v (.int .u64 0)]) := by kernel_rfl
theorem bld89 : bld Tryz.prog 89 = some (.st [(0, 1), (1, 1), (2, 1)]) := by kernel_rfl
theorem foff89_0 : foff Tryz.prog 89 0 = some 0 := by kernel_rfl
theorem ftyp89_0 : ftyp Tryz.prog 89 0 = some (22, 0) := by kernel_rfl
theorem foff89_1 : foff Tryz.prog 89 1 = some 1 := by kernel_rfl
theorem ftyp89_1 : ftyp Tryz.prog 89 1 = some (3, 1) := by kernel_rfl
theorem foff89_2 : foff Tryz.prog 89 2 = some 2 := by kernel_rfl
theorem ftyp89_2 : ftyp Tryz.prog 89 2 = some (87, 2) := by kernel_rfl
theorem szo97 : szo Tryz.prog 97 = some 1 := by kernel_rfl
theorem aggo97 : aggo Tryz.prog 97 = some false := by kernel_rfl
theorem zero97 : zeroL Tryz.prog 97 = some ([.v (.pointer none)]) := by kernel_rfl
theorem szo98 : szo Tryz.prog 98 = some 2 := by kernel_rfl
theorem aggo98 : aggo Tryz.prog 98 = some true := by kernel_rfl
theorem zero98 : zeroL Tryz.prog 98 = some ([.v (.pointer none), .v (.slice none 0 0)]) := by kernel_rfl
theorem bld98 : bld Tryz.prog 98 = some (.st [(0, 1), (1, 1)]) := by kernel_rfl
theorem foff98_0 : foff Tryz.prog 98 0 = some 0 := by kernel_rfl
theorem ftyp98_0 : ftyp Tryz.prog 98 0 = some (97, 0) := by kernel_rfl
theorem foff98_1 : foff Tryz.prog 98 1 = some 1 := by kernel_rfl
theorem ftyp98_1 : ftyp Tryz.prog 98 1 = some (22, 1) := by kernel_rfl
theorem szo99 : szo Tryz.prog 99 = some 2 := by kernel_rfl
theorem aggo99 : aggo Tryz.prog 99 = some true := by kernel_rfl
theorem zero99 : zeroL Tryz.prog 99 = some ([.v (.pointer none), .v (.slice none 0 0)]) := by kernel_rfl
theorem bld99 : bld Tryz.prog 99 = some (.st [(0, 1), (1, 1)]) := by kernel_rfl
theorem foff99_0 : foff Tryz.prog 99 0 = some 0 := by kernel_rfl
theorem ftyp99_0 : ftyp Tryz.prog 99 0 = some (97, 0) := by kernel_rfl
theorem foff99_1 : foff Tryz.prog 99 1 = some 1 := by kernel_rfl
theorem ftyp99_1 : ftyp Tryz.prog 99 1 = some (22, 1) := by kernel_rfl
theorem szo105 : szo Tryz.prog 105 = some 1 := by kernel_rfl
theorem aggo105 : aggo Tryz.prog 105 = some false := by kernel_rfl
theorem zero105 : zeroL Tryz.prog 105 = some ([.v (.slice none 0 0)]) := by kernel_rfl
theorem rowo105 : rowo Tryz.prog 105 = some (false, 0, 1) := by kernel_rfl
theorem slo105 : slo Tryz.prog 105 = some (25, 1, 24) := by kernel_rfl
theorem slTy105 : slTy Tryz.prog 105 = true := by kernel_rfl
theorem szo107 : szo Tryz.prog 107 = some 1 := by kernel_rfl
theorem aggo107 : aggo Tryz.prog 107 = some false := by kernel_rfl
theorem zero107 : zeroL Tryz.prog 107 = some ([.v (.int .u64 0)]) := by kernel_rfl
theorem und107 : Tryz.prog.underlying 107 = some (.int .u64) := by kernel_rfl
theorem szo111 : szo Tryz.prog 111 = some 1 := by kernel_rfl
theorem aggo111 : aggo Tryz.prog 111 = some false := by kernel_rfl
theorem zero111 : zeroL Tryz.prog 111 = some ([.v (.pointer none)]) := by kernel_rfl
theorem szo116 : szo Tryz.prog 116 = some 1 := by kernel_rfl
theorem aggo116 : aggo Tryz.prog 116 = some false := by kernel_rfl
theorem zero116 : zeroL Tryz.prog 116 = some ([.v (.int .i64 0)]) := by kernel_rfl
theorem und116 : Tryz.prog.underlying 116 = some (.int .i64) := by kernel_rfl
theorem szo119 : szo Tryz.prog 119 = some 1 := by kernel_rfl
theorem aggo119 : aggo Tryz.prog 119 = some false := by kernel_rfl
theorem zero119 : zeroL Tryz.prog 119 = some ([.v (.pointer none)]) := by kernel_rfl
theorem szo123 : szo Tryz.prog 123 = some 24 := by kernel_rfl
theorem aggo123 : aggo Tryz.prog 123 = some true := by kernel_rfl
theorem zero123 : zeroL Tryz.prog 123 = some (List.replicate 24 (.v (.int .u8 0))) := by kernel_rfl
theorem rowo123 : rowo Tryz.prog 123 = some (true, 24, 1) := by kernel_rfl
theorem etyp123 : etyp Tryz.prog 123 = some (24, 5, 1) := by kernel_rfl
theorem bld123 : bld Tryz.prog 123 = some (.ar 1) := by kernel_rfl
theorem eqo123 : eqo Tryz.prog 123 = some (List.replicate 24 (.i .u8)) := by kernel_rfl
theorem szo134 : szo Tryz.prog 134 = some 1 := by kernel_rfl
theorem aggo134 : aggo Tryz.prog 134 = some false := by kernel_rfl
theorem zero134 : zeroL Tryz.prog 134 = some ([.v (.int .u32 0)]) := by kernel_rfl
theorem und134 : Tryz.prog.underlying 134 = some (.int .u32) := by kernel_rfl
theorem szo140 : szo Tryz.prog 140 = some 3 := by kernel_rfl
theorem aggo140 : aggo Tryz.prog 140 = some true := by kernel_rfl
theorem zero140 : zeroL Tryz.prog 140 = some ([.v (.string ByteArray.empty), .v (.string ByteArray.empty), .v .nilIface]) := by kernel_rfl
theorem bld140 : bld Tryz.prog 140 = some (.st [(0, 1), (1, 1), (2, 1)]) := by kernel_rfl
theorem foff140_0 : foff Tryz.prog 140 0 = some 0 := by kernel_rfl
theorem ftyp140_0 : ftyp Tryz.prog 140 0 = some (9, 0) := by kernel_rfl
theorem foff140_1 : foff Tryz.prog 140 1 = some 1 := by kernel_rfl
theorem ftyp140_1 : ftyp Tryz.prog 140 1 = some (9, 1) := by kernel_rfl
theorem foff140_2 : foff Tryz.prog 140 2 = some 2 := by kernel_rfl
theorem ftyp140_2 : ftyp Tryz.prog 140 2 = some (93, 2) := by kernel_rfl
theorem szo141 : szo Tryz.prog 141 = some 3 := by kernel_rfl
theorem aggo141 : aggo Tryz.prog 141 = some true := by kernel_rfl
theorem zero141 : zeroL Tryz.prog 141 = some ([.v (.string ByteArray.empty), .v (.string ByteArray.empty), .v .nilIface]) := by kernel_rfl
theorem bld141 : bld Tryz.prog 141 = some (.st [(0, 1), (1, 1), (2, 1)]) := by kernel_rfl
theorem foff141_0 : foff Tryz.prog 141 0 = some 0 := by kernel_rfl
theorem ftyp141_0 : ftyp Tryz.prog 141 0 = some (9, 0) := by kernel_rfl
theorem foff141_1 : foff Tryz.prog 141 1 = some 1 := by kernel_rfl
theorem ftyp141_1 : ftyp Tryz.prog 141 1 = some (9, 1) := by kernel_rfl
theorem foff141_2 : foff Tryz.prog 141 2 = some 2 := by kernel_rfl
theorem ftyp141_2 : ftyp Tryz.prog 141 2 = some (93, 2) := by kernel_rfl
theorem szo144 : szo Tryz.prog 144 = some 20 := by kernel_rfl
theorem aggo144 : aggo Tryz.prog 144 = some true := by kernel_rfl
theorem zero144 : zeroL Tryz.prog 144 = some (List.replicate 20 (.v (.int .u64 0))) := by kernel_rfl
theorem rowo144 : rowo Tryz.prog 144 = some (true, 20, 1) := by kernel_rfl
theorem etyp144 : etyp Tryz.prog 144 = some (20, 87, 1) := by kernel_rfl
theorem bld144 : bld Tryz.prog 144 = some (.ar 1) := by kernel_rfl
theorem eqo144 : eqo Tryz.prog 144 = some (List.replicate 20 (.i .u64)) := by kernel_rfl
theorem szo145 : szo Tryz.prog 145 = some 65 := by kernel_rfl
theorem aggo145 : aggo Tryz.prog 145 = some true := by kernel_rfl
theorem zero145 : zeroL Tryz.prog 145 = some (List.replicate 65 (.v (.int .u8 0))) := by kernel_rfl
theorem rowo145 : rowo Tryz.prog 145 = some (true, 65, 1) := by kernel_rfl
theorem etyp145 : etyp Tryz.prog 145 = some (65, 5, 1) := by kernel_rfl
theorem bld145 : bld Tryz.prog 145 = some (.ar 1) := by kernel_rfl
theorem eqo145 : eqo Tryz.prog 145 = some (List.replicate 65 (.i .u8)) := by kernel_rfl
theorem szo148 : szo Tryz.prog 148 = some 1 := by kernel_rfl
theorem aggo148 : aggo Tryz.prog 148 = some false := by kernel_rfl
theorem zero148 : zeroL Tryz.prog 148 = some ([.v (.pointer none)]) := by kernel_rfl
theorem szo149 : szo Tryz.prog 149 = some 1 := by kernel_rfl
theorem aggo149 : aggo Tryz.prog 149 = some true := by kernel_rfl
theorem zero149 : zeroL Tryz.prog 149 = some ([.v (.string ByteArray.empty)]) := by kernel_rfl
theorem bld149 : bld Tryz.prog 149 = some (.st [(0, 1)]) := by kernel_rfl
theorem foff149_0 : foff Tryz.prog 149 0 = some 0 := by kernel_rfl
theorem ftyp149_0 : ftyp Tryz.prog 149 0 = some (9, 0) := by kernel_rfl
theorem szo150 : szo Tryz.prog 150 = some 1 := by kernel_rfl
theorem aggo150 : aggo Tryz.prog 150 = some true := by kernel_rfl
theorem zero150 : zeroL Tryz.prog 150 = some ([.v (.string ByteArray.empty)]) := by kernel_rfl
theorem bld150 : bld Tryz.prog 150 = some (.st [(0, 1)]) := by kernel_rfl
theorem foff150_0 : foff Tryz.prog 150 0 = some 0 := by kernel_rfl
theorem ftyp150_0 : ftyp Tryz.prog 150 0 = some (9, 0) := by kernel_rfl
theorem szo152 : szo Tryz.prog 152 = some 256 := by kernel_rfl
theorem aggo152 : aggo Tryz.prog 152 = some true := by kernel_rfl
theorem rowo152 : rowo Tryz.prog 152 = some (true, 256, 1) := by kernel_rfl
theorem etyp152 : etyp Tryz.prog 152 = some (256, 5, 1) := by kernel_rfl
theorem bld152 : bld Tryz.prog 152 = some (.ar 1) := by kernel_rfl
theorem eqo152 : eqo Tryz.prog 152 = some (List.replicate 256 (.i .u8)) := by kernel_rfl
theorem szo153 : szo Tryz.prog 153 = some 2 := by kernel_rfl
theorem aggo153 : aggo Tryz.prog 153 = some true := by kernel_rfl
theorem zero153 : zeroL Tryz.prog 153 = some ([.v (.int .u8 0), .v (.int .u8 0)]) := by kernel_rfl
theorem bld153 : bld Tryz.prog 153 = some (.st [(0, 1), (1, 1)]) := by kernel_rfl
theorem foff153_0 : foff Tryz.prog 153 0 = some 0 := by kernel_rfl
theorem ftyp153_0 : ftyp Tryz.prog 153 0 = some (5, 0) := by kernel_rfl
theorem foff153_1 : foff Tryz.prog 153 1 = some 1 := by kernel_rfl
theorem ftyp153_1 : ftyp Tryz.prog 153 1 = some (5, 1) := by kernel_rfl
theorem eqo153 : eqo Tryz.prog 153 = some [.i .u8, .i .u8] := by kernel_rfl
theorem szo154 : szo Tryz.prog 154 = some 2 := by kernel_rfl
theorem aggo154 : aggo Tryz.prog 154 = some true := by kernel_rfl
theorem zero154 : zeroL Tryz.prog 154 = some ([.v (.int .u8 0), .v (.int .u8 0)]) := by kernel_rfl
theorem bld154 : bld Tryz.prog 154 = some (.st [(0, 1), (1, 1)]) := by kernel_rfl
theorem foff154_0 : foff Tryz.prog 154 0 = some 0 := by kernel_rfl
theorem ftyp154_0 : ftyp Tryz.prog 154 0 = some (5, 0) := by kernel_rfl
theorem foff154_1 : foff Tryz.prog 154 1 = some 1 := by kernel_rfl
theorem ftyp154_1 : ftyp Tryz.prog 154 1 = some (5, 1) := by kernel_rfl
theorem eqo154 : eqo Tryz.prog 154 = some [.i .u8, .i .u8] := by kernel_rfl
theorem szo155 : szo Tryz.prog 155 = some 32 := by kernel_rfl
theorem aggo155 : aggo Tryz.prog 155 = some true := by kernel_rfl
theorem zero155 : zeroL Tryz.prog 155 = some (List.replicate 32 (.v (.int .u8 0))) := by kernel_rfl
theorem rowo155 : rowo Tryz.prog 155 = some (true, 16, 2) := by kernel_rfl
theorem etyp155 : etyp Tryz.prog 155 = some (16, 154, 2) := by kernel_rfl
theorem bld155 : bld Tryz.prog 155 = some (.ar 2) := by kernel_rfl
theorem eqo155 : eqo Tryz.prog 155 = some (List.replicate 32 (.i .u8)) := by kernel_rfl
theorem szo156 : szo Tryz.prog 156 = some 32 := by kernel_rfl
theorem aggo156 : aggo Tryz.prog 156 = some true := by kernel_rfl
theorem zero156 : zeroL Tryz.prog 156 = some (List.replicate 32 (.v (.int .u8 0))) := by kernel_rfl
theorem rowo156 : rowo Tryz.prog 156 = some (true, 32, 1) := by kernel_rfl
theorem etyp156 : etyp Tryz.prog 156 = some (32, 5, 1) := by kernel_rfl
theorem bld156 : bld Tryz.prog 156 = some (.ar 1) := by kernel_rfl
theorem eqo156 : eqo Tryz.prog 156 = some (List.replicate 32 (.i .u8)) := by kernel_rfl
theorem szo157 : szo Tryz.prog 157 = some 64 := by kernel_rfl
theorem aggo157 : aggo Tryz.prog 157 = some true := by kernel_rfl
theorem zero157 : zeroL Tryz.prog 157 = some (List.replicate 64 (.v (.int .u8 0))) := by kernel_rfl
theorem rowo157 : rowo Tryz.prog 157 = some (true, 64, 1) := by kernel_rfl
theorem etyp157 : etyp Tryz.prog 157 = some (64, 5, 1) := by kernel_rfl
theorem bld157 : bld Tryz.prog 157 = some (.ar 1) := by kernel_rfl
theorem eqo157 : eqo Tryz.prog 157 = some (List.replicate 64 (.i .u8)) := by kernel_rfl
theorem szo158 : szo Tryz.prog 158 = some 4 := by kernel_rfl
theorem aggo158 : aggo Tryz.prog 158 = some true := by kernel_rfl
theorem zero158 : zeroL Tryz.prog 158 = some ([.v (.pointer none), .v (.pointer none), .v (.pointer none), .v (.string ByteArray.empty)]) := by kernel_rfl
theorem bld158 : bld Tryz.prog 158 = some (.st [(0, 1), (1, 1), (2, 1), (3, 1)]) := by kernel_rfl
theorem foff158_0 : foff Tryz.prog 158 0 = some 0 := by kernel_rfl
theorem ftyp158_0 : ftyp Tryz.prog 158 0 = some (17, 0) := by kernel_rfl
theorem foff158_1 : foff Tryz.prog 158 1 = some 1 := by kernel_rfl
theorem ftyp158_1 : ftyp Tryz.prog 158 1 = some (17, 1) := by kernel_rfl
theorem foff158_2 : foff Tryz.prog 158 2 = some 2 := by kernel_rfl
theorem ftyp158_2 : ftyp Tryz.prog 158 2 = some (17, 2) := by kernel_rfl
theorem foff158_3 : foff Tryz.prog 158 3 = some 3 := by kernel_rfl
theorem ftyp158_3 : ftyp Tryz.prog 158 3 = some (9, 3) := by kernel_rfl
theorem szo159 : szo Tryz.prog 159 = some 4 := by kernel_rfl
theorem aggo159 : aggo Tryz.prog 159 = some true := by kernel_rfl
theorem zero159 : zeroL Tryz.prog 159 = some ([.v (.pointer none), .v (.pointer none), .v (.pointer none), .v (.string ByteArray.empty)]) := by kernel_rfl
theorem bld159 : bld Tryz.prog 159 = some (.st [(0, 1), (1, 1), (2, 1), (3, 1)]) := by kernel_rfl
theorem foff159_0 : foff Tryz.prog 159 0 = some 0 := by kernel_rfl
theorem ftyp159_0 : ftyp Tryz.prog 159 0 = some (17, 0) := by kernel_rfl
theorem foff159_1 : foff Tryz.prog 159 1 = some 1 := by kernel_rfl
theorem ftyp159_1 : ftyp Tryz.prog 159 1 = some (17, 1) := by kernel_rfl
theorem foff159_2 : foff Tryz.prog 159 2 = some 2 := by kernel_rfl
theorem ftyp159_2 : ftyp Tryz.prog 159 2 = some (17, 2) := by kernel_rfl
theorem foff159_3 : foff Tryz.prog 159 3 = some 3 := by kernel_rfl
theorem ftyp159_3 : ftyp Tryz.prog 159 3 = some (9, 3) := by kernel_rfl
theorem szo160 : szo Tryz.prog 160 = some 0 := by kernel_rfl
theorem aggo160 : aggo Tryz.prog 160 = some true := by kernel_rfl
theorem zero160 : zeroL Tryz.prog 160 = some ([]) := by kernel_rfl
theorem rowo160 : rowo Tryz.prog 160 = some (true, 0, 1) := by kernel_rfl
theorem etyp160 : etyp Tryz.prog 160 = some (0, 16, 1) := by kernel_rfl
theorem bld160 : bld Tryz.prog 160 = some (.ar 1) := by kernel_rfl
theorem szo161 : szo Tryz.prog 161 = some 0 := by kernel_rfl
theorem aggo161 : aggo Tryz.prog 161 = some true := by kernel_rfl
theorem zero161 : zeroL Tryz.prog 161 = some ([]) := by kernel_rfl
theorem bld161 : bld Tryz.prog 161 = some (.st [(0, 0)]) := by kernel_rfl
theorem ftyp161_0 : ftyp Tryz.prog 161 0 = some (160, 0) := by kernel_rfl
theorem szo162 : szo Tryz.prog 162 = some 0 := by kernel_rfl
theorem aggo162 : aggo Tryz.prog 162 = some true := by kernel_rfl
theorem zero162 : zeroL Tryz.prog 162 = some ([]) := by kernel_rfl
theorem bld162 : bld Tryz.prog 162 = some (.st [(0, 0)]) := by kernel_rfl
theorem ftyp162_0 : ftyp Tryz.prog 162 0 = some (160, 0) := by kernel_rfl
theorem szo164 : szo Tryz.prog 164 = some 1 := by kernel_rfl
theorem aggo164 : aggo Tryz.prog 164 = some false := by kernel_rfl
theorem zero164 : zeroL Tryz.prog 164 = some ([.v (.int .u8 0)]) := by kernel_rfl
theorem und164 : Tryz.prog.underlying 164 = some (.int .u8) := by kernel_rfl
theorem szo165 : szo Tryz.prog 165 = some 1 := by kernel_rfl
theorem aggo165 : aggo Tryz.prog 165 = some false := by kernel_rfl
theorem zero165 : zeroL Tryz.prog 165 = some ([.v (.int .u8 0)]) := by kernel_rfl
theorem und165 : Tryz.prog.underlying 165 = some (.int .u8) := by kernel_rfl
theorem szo167 : szo Tryz.prog 167 = some 1 := by kernel_rfl
theorem aggo167 : aggo Tryz.prog 167 = some false := by kernel_rfl
theorem zero167 : zeroL Tryz.prog 167 = some ([.v (.int .i32 0)]) := by kernel_rfl
theorem und167 : Tryz.prog.underlying 167 = some (.int .i32) := by kernel_rfl
theorem szo168 : szo Tryz.prog 168 = some 1 := by kernel_rfl
theorem aggo168 : aggo Tryz.prog 168 = some false := by kernel_rfl
theorem zero168 : zeroL Tryz.prog 168 = some ([.v (.int .i32 0)]) := by kernel_rfl
theorem und168 : Tryz.prog.underlying 168 = some (.int .i32) := by kernel_rfl
theorem szo169 : szo Tryz.prog 169 = some 11 := by kernel_rfl
theorem aggo169 : aggo Tryz.prog 169 = some true := by kernel_rfl
theorem zero169 : zeroL Tryz.prog 169 = some ([.v (.int .u64 0), .v (.int .u64 0), .v (.int .u32 0), .v (.int .u8 0), .v (.int .u8 0), .v (.int .u8 0), .v (.int .u8 0), .v .nilFunc, .v (.pointer none), .v (.int .i32 0), .v (.int .i32 0)]) := by kernel_rfl
theorem foff169_0 : foff Tryz.prog 169 0 = some 0 := by kernel_rfl
theorem ftyp169_0 : ftyp Tryz.prog 169 0 = some (12, 0) := by kernel_rfl
theorem foff169_1 : foff Tryz.prog 169 1 = some 1 := by kernel_rfl
theorem ftyp169_1 : ftyp Tryz.prog 169 1 = some (12, 1) := by kernel_rfl
theorem foff169_2 : foff Tryz.prog 169 2 = some 2 := by kernel_rfl
theorem ftyp169_2 : ftyp Tryz.prog 169 2 = some (134, 2) := by kernel_rfl
theorem foff169_3 : foff Tryz.prog 169 3 = some 3 := by kernel_rfl
theorem ftyp169_3 : ftyp Tryz.prog 169 3 = some (164, 3) := by kernel_rfl
theorem foff169_4 : foff Tryz.prog 169 4 = some 4 := by kernel_rfl
theorem ftyp169_4 : ftyp Tryz.prog 169 4 = some (5, 4) := by kernel_rfl
theorem foff169_5 : foff Tryz.prog 169 5 = some 5 := by kernel_rfl
theorem ftyp169_5 : ftyp Tryz.prog 169 5 = some (5, 5) := by kernel_rfl
theorem foff169_6 : foff Tryz.prog 169 6 = some 6 := by kernel_rfl
theorem ftyp169_6 : ftyp Tryz.prog 169 6 = some (165, 6) := by kernel_rfl
theorem foff169_8 : foff Tryz.prog 169 8 = some 8 := by kernel_rfl
theorem ftyp169_8 : ftyp Tryz.prog 169 8 = some (111, 8) := by kernel_rfl
theorem foff169_9 : foff Tryz.prog 169 9 = some 9 := by kernel_rfl
theorem ftyp169_9 : ftyp Tryz.prog 169 9 = some (167, 9) := by kernel_rfl
theorem foff169_10 : foff Tryz.prog 169 10 = some 10 := by kernel_rfl
theorem ftyp169_10 : ftyp Tryz.prog 169 10 = some (168, 10) := by kernel_rfl
theorem szo170 : szo Tryz.prog 170 = some 11 := by kernel_rfl
theorem aggo170 : aggo Tryz.prog 170 = some true := by kernel_rfl
theorem zero170 : zeroL Tryz.prog 170 = some ([.v (.int .u64 0), .v (.int .u64 0), .v (.int .u32 0), .v (.int .u8 0), .v (.int .u8 0), .v (.int .u8 0), .v (.int .u8 0), .v .nilFunc, .v (.pointer none), .v (.int .i32 0), .v (.int .i32 0)]) := by kernel_rfl
theorem foff170_0 : foff Tryz.prog 170 0 = some 0 := by kernel_rfl
theorem ftyp170_0 : ftyp Tryz.prog 170 0 = some (12, 0) := by kernel_rfl
theorem foff170_1 : foff Tryz.prog 170 1 = some 1 := by kernel_rfl
theorem ftyp170_1 : ftyp Tryz.prog 170 1 = some (12, 1) := by kernel_rfl
theorem foff170_2 : foff Tryz.prog 170 2 = some 2 := by kernel_rfl
theorem ftyp170_2 : ftyp Tryz.prog 170 2 = some (134, 2) := by kernel_rfl
theorem foff170_3 : foff Tryz.prog 170 3 = some 3 := by kernel_rfl
theorem ftyp170_3 : ftyp Tryz.prog 170 3 = some (164, 3) := by kernel_rfl
theorem foff170_4 : foff Tryz.prog 170 4 = some 4 := by kernel_rfl
theorem ftyp170_4 : ftyp Tryz.prog 170 4 = some (5, 4) := by kernel_rfl
theorem foff170_5 : foff Tryz.prog 170 5 = some 5 := by kernel_rfl
theorem ftyp170_5 : ftyp Tryz.prog 170 5 = some (5, 5) := by kernel_rfl
theorem foff170_6 : foff Tryz.prog 170 6 = some 6 := by kernel_rfl
theorem ftyp170_6 : ftyp Tryz.prog 170 6 = some (165, 6) := by kernel_rfl
theorem foff170_8 : foff Tryz.prog 170 8 = some 8 := by kernel_rfl
theorem ftyp170_8 : ftyp Tryz.prog 170 8 = some (111, 8) := by kernel_rfl
theorem foff170_9 : foff Tryz.prog 170 9 = some 9 := by kernel_rfl
theorem ftyp170_9 : ftyp Tryz.prog 170 9 = some (167, 9) := by kernel_rfl
theorem foff170_10 : foff Tryz.prog 170 10 = some 10 := by kernel_rfl
theorem ftyp170_10 : ftyp Tryz.prog 170 10 = some (168, 10) := by kernel_rfl
attribute [go_sem] szo2 aggo2 zero2 und2 szo3 aggo3 zero3 und3 szo4 aggo4 zero4 und4 szo5 aggo5 zero5 und5 szo6 aggo6 zero6 und6 szo7 aggo7 zero7 bld7 foff7_0 ftyp7_0 foff7_1 ftyp7_1 foff7_2 ftyp7_2 foff7_3 ftyp7_3 eqo7 szo8 aggo8 zero8 bld8 foff8_0 ftyp8_0 foff8_1 ftyp8_1 foff8_2 ftyp8_2 foff8_3 ftyp8_3 eqo8 szo9 aggo9 zero9 und9 szo10 aggo10 zero10 und10 szo11 aggo11 zero11 und11 szo12 aggo12 zero12 und12 szo13 aggo13 zero13 bld13 foff13_0 ftyp13_0 foff13_1 ftyp13_1 szo14 aggo14 zero14 bld14 foff14_0 ftyp14_0 foff14_1 ftyp14_1 szo15 aggo15 zero15 szo16 aggo16 zero16 szo17 aggo17 zero17 szo18 aggo18 zero18 bld18 foff18_0 ftyp18_0 szo19 aggo19 zero19 bld19 foff19_0 ftyp19_0 szo21 aggo21 zero21 und21 szo22 aggo22 zero22 rowo22 slo22 slTy22 szo24 aggo24 zero24 rowo24 slo24 slTy24 szo25 aggo25 zero25 rowo25 slo25 slTy25 szo34 aggo34 zero34 rowo34 slo34 slTy34 szo39 aggo39 zero39 und39 szo40 aggo40 zero40 und40 szo41 aggo41 zero41 bld41 foff41_0 ftyp41_0 foff41_1 ftyp41_1 foff41_2 ftyp41_2 eqo41 szo42 aggo42 zero42 bld42 foff42_0 ftyp42_0 foff42_1 ftyp42_1 foff42_2 ftyp42_2 eqo42 szo51 aggo51 zero51 szo54 aggo54 zero54 rowo54 slo54 slTy54 szo81 aggo81 zero81 rowo81 slo81 slTy81 szo82 aggo82 zero82 rowo82 etyp82 bld82 eqo82 szo87 aggo87 zero87 und87 szo88 aggo88 zero88 bld88 foff88_0 ftyp88_0 foff88_1 ftyp88_1 foff88_2 ftyp88_2 szo89 aggo89 zero89 bld89 foff89_0 ftyp89_0 foff89_1 ftyp89_1 foff89_2 ftyp89_2 szo97 aggo97 zero97 szo98 aggo98 zero98 bld98 foff98_0 ftyp98_0 foff98_1 ftyp98_1 szo99 aggo99 zero99 bld99 foff99_0 ftyp99_0 foff99_1 ftyp99_1 szo105 aggo105 zero105 rowo105 slo105 slTy105 szo107 aggo107 zero107 und107 szo111 aggo111 zero111 szo116 aggo116 zero116 und116 szo119 aggo119 zero119 szo123 aggo123 zero123 rowo123 etyp123 bld123 eqo123 szo134 aggo134 zero134 und134 szo140 aggo140 zero140 bld140 foff140_0 ftyp140_0 foff140_1 ftyp140_1 foff140_2 ftyp140_2 szo141 aggo141 zero141 bld141 foff141_0 ftyp141_0 foff141_1 ftyp141_1 foff141_2 ftyp141_2 szo144 aggo144 zero144 rowo144 etyp144 bld144 eqo144 szo145 aggo145 zero145 rowo145 etyp145 bld145 eqo145 szo148 aggo148 zero148 szo149 aggo149 zero149 bld149 foff149_0 ftyp149_0 szo150 aggo150 zero150 bld150 foff150_0 ftyp150_0 szo152 aggo152 rowo152 etyp152 bld152 eqo152 szo153 aggo153 zero153 bld153 foff153_0 ftyp153_0 foff153_1 ftyp153_1 eqo153 szo154 aggo154 zero154 bld154 foff154_0 ftyp154_0 foff154_1 ftyp154_1 eqo154 szo155 aggo155 zero155 rowo155 etyp155 bld155 eqo155 szo156 aggo156 zero156 rowo156 etyp156 bld156 eqo156 szo157 aggo157 zero157 rowo157 etyp157 bld157 eqo157 szo158 aggo158 zero158 bld158 foff158_0 ftyp158_0 foff158_1 ftyp158_1 foff158_2 ftyp158_2 foff158_3 ftyp158_3 szo159 aggo159 zero159 bld159 foff159_0 ftyp159_0 foff159_1 ftyp159_1 foff159_2 ftyp159_2 foff159_3 ftyp159_3 szo160 aggo160 zero160 rowo160 etyp160 bld160 szo161 aggo161 zero161 bld161 ftyp161_0 szo162 aggo162 zero162 bld162 ftyp162_0 szo164 aggo164 zero164 und164 szo165 aggo165 zero165 und165 szo167 aggo167 zero167 und167 szo168 aggo168 zero168 und168 szo169 aggo169 zero169 foff169_0 ftyp169_0 foff169_1 ftyp169_1 foff169_2 ftyp169_2 foff169_3 ftyp169_3 foff169_4 ftyp169_4 foff169_5 ftyp169_5 foff169_6 ftyp169_6 foff169_8 ftyp169_8 foff169_9 ftyp169_9 foff169_10 ftyp169_10 szo170 aggo170 zero170 foff170_0 ftyp170_0 foff170_1 ftyp170_1 foff170_2 ftyp170_2 foff170_3 ftyp170_3 foff170_4 ftyp170_4 foff170_5 ftyp170_5 foff170_6 ftyp170_6 foff170_8 ftyp170_8 foff170_9 ftyp170_9 foff170_10 ftyp170_10
theorem mixed : Tryz.prog.follows .mixedOrders = true := by kernel_rfl
end Go.Proofs.YtcebmjajnbafoaaGreatDoor
