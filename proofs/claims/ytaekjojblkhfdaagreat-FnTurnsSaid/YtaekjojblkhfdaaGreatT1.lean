/- What the types of the translated program are, as the walk asks for it. -/
import Derived.KernelRfl
import Derived.Test.YtaekjojblkhfdaaGreatProg
import Derived.Test.YtaekjojblkhfdaaGreatLC
set_option linter.unusedVariables false
set_option linter.unusedSimpArgs false
set_option maxRecDepth 8000
set_option maxHeartbeats 16000000
namespace Go.Proofs.YtaekjojblkhfdaaGreat
open Go Go.Sx
theorem szo2 : szo Tryz.prog 2 = some 1 := by kernel_rfl
theorem aggo2 : aggo Tryz.prog 2 = some false := by kernel_rfl
theorem zero2 : zeroL Tryz.prog 2 = some ([.v (.int .i64 0)]) := by kernel_rfl
theorem und2 : Tryz.prog.underlying 2 = some (.int .i64) := by kernel_rfl
theorem szo3 : szo Tryz.prog 3 = some 1 := by kernel_rfl
theorem aggo3 : aggo Tryz.prog 3 = some false := by kernel_rfl
theorem zero3 : zeroL Tryz.prog 3 = some ([.v (.int .i64 0)]) := by kernel_rfl
theorem und3 : Tryz.prog.underlying 3 = some (.int .i64) := by kernel_rfl
theorem szo4 : szo Tryz.prog 4 = some 1 := by kernel_rfl
theorem aggo4 : aggo Tryz.prog 4 = some false := by kernel_rfl
theorem zero4 : zeroL Tryz.prog 4 = some ([.v (.bool false)]) := by kernel_rfl
theorem und4 : Tryz.prog.underlying 4 = some .bool := by kernel_rfl
theorem szo5 : szo Tryz.prog 5 = some 1 := by kernel_rfl
theorem aggo5 : aggo Tryz.prog 5 = some false := by kernel_rfl
theorem zero5 : zeroL Tryz.prog 5 = some ([.v (.int .u8 0)]) := by kernel_rfl
theorem und5 : Tryz.prog.underlying 5 = some (.int .u8) := by kernel_rfl
theorem szo6 : szo Tryz.prog 6 = some 1 := by kernel_rfl
theorem aggo6 : aggo Tryz.prog 6 = some false := by kernel_rfl
theorem zero6 : zeroL Tryz.prog 6 = some ([.v (.int .u8 0)]) := by kernel_rfl
theorem und6 : Tryz.prog.underlying 6 = some (.int .u8) := by kernel_rfl
theorem szo7 : szo Tryz.prog 7 = some 4 := by kernel_rfl
theorem aggo7 : aggo Tryz.prog 7 = some true := by kernel_rfl
theorem zero7 : zeroL Tryz.prog 7 = some ([.v (.int .i64 0), .v (.int .i64 0), .v (.bool false), .v (.int .u8 0)]) := by kernel_rfl
theorem bld7 : bld Tryz.prog 7 = some (.st [(0, 1), (1, 1), (2, 1), (3, 1)]) := by kernel_rfl
theorem foff7_0 : foff Tryz.prog 7 0 = some 0 := by kernel_rfl
theorem ftyp7_0 : ftyp Tryz.prog 7 0 = some (2, 0) := by kernel_rfl
theorem foff7_1 : foff Tryz.prog 7 1 = some 1 := by kernel_rfl
theorem ftyp7_1 : ftyp Tryz.prog 7 1 = some (3, 1) := by kernel_rfl
theorem foff7_2 : foff Tryz.prog 7 2 = some 2 := by kernel_rfl
theorem ftyp7_2 : ftyp Tryz.prog 7 2 = some (4, 2) := by kernel_rfl
theorem foff7_3 : foff Tryz.prog 7 3 = some 3 := by kernel_rfl
theorem ftyp7_3 : ftyp Tryz.prog 7 3 = some (6, 3) := by kernel_rfl
theorem eqo7 : eqo Tryz.prog 7 = some [.i .i64, .i .i64, .b, .i .u8] := by kernel_rfl
theorem szo8 : szo Tryz.prog 8 = some 4 := by kernel_rfl
theorem aggo8 : aggo Tryz.prog 8 = some true := by kernel_rfl
theorem zero8 : zeroL Tryz.prog 8 = some ([.v (.int .i64 0), .v (.int .i64 0), .v (.bool false), .v (.int .u8 0)]) := by kernel_rfl
theorem bld8 : bld Tryz.prog 8 = some (.st [(0, 1), (1, 1), (2, 1), (3, 1)]) := by kernel_rfl
theorem foff8_0 : foff Tryz.prog 8 0 = some 0 := by kernel_rfl
theorem ftyp8_0 : ftyp Tryz.prog 8 0 = some (2, 0) := by kernel_rfl
theorem foff8_1 : foff Tryz.prog 8 1 = some 1 := by kernel_rfl
theorem ftyp8_1 : ftyp Tryz.prog 8 1 = some (3, 1) := by kernel_rfl
theorem foff8_2 : foff Tryz.prog 8 2 = some 2 := by kernel_rfl
theorem ftyp8_2 : ftyp Tryz.prog 8 2 = some (4, 2) := by kernel_rfl
theorem foff8_3 : foff Tryz.prog 8 3 = some 3 := by kernel_rfl
theorem ftyp8_3 : ftyp Tryz.prog 8 3 = some (6, 3) := by kernel_rfl
theorem eqo8 : eqo Tryz.prog 8 = some [.i .i64, .i .i64, .b, .i .u8] := by kernel_rfl
theorem szo9 : szo Tryz.prog 9 = some 1 := by kernel_rfl
theorem aggo9 : aggo Tryz.prog 9 = some false := by kernel_rfl
theorem zero9 : zeroL Tryz.prog 9 = some ([.v (.string ByteArray.empty)]) := by kernel_rfl
theorem und9 : Tryz.prog.underlying 9 = some .string := by kernel_rfl
theorem szo10 : szo Tryz.prog 10 = some 1 := by kernel_rfl
theorem aggo10 : aggo Tryz.prog 10 = some false := by kernel_rfl
theorem zero10 : zeroL Tryz.prog 10 = some ([.v (.string ByteArray.empty)]) := by kernel_rfl
theorem und10 : Tryz.prog.underlying 10 = some .string := by kernel_rfl
theorem szo11 : szo Tryz.prog 11 = some 1 := by kernel_rfl
theorem aggo11 : aggo Tryz.prog 11 = some false := by kernel_rfl
theorem zero11 : zeroL Tryz.prog 11 = some ([.v (.string ByteArray.empty)]) := by kernel_rfl
theorem und11 : Tryz.prog.underlying 11 = some .string := by kernel_rfl
theorem szo12 : szo Tryz.prog 12 = some 1 := by kernel_rfl
theorem aggo12 : aggo Tryz.prog 12 = some false := by kernel_rfl
theorem zero12 : zeroL Tryz.prog 12 = some ([.v (.int .u64 0)]) := by kernel_rfl
theorem und12 : Tryz.prog.underlying 12 = some (.int .u64) := by kernel_rfl
theorem szo13 : szo Tryz.prog 13 = some 2 := by kernel_rfl
theorem aggo13 : aggo Tryz.prog 13 = some true := by kernel_rfl
theorem zero13 : zeroL Tryz.prog 13 = some ([.v (.string ByteArray.empty), .v (.int .u64 0)]) := by kernel_rfl
theorem bld13 : bld Tryz.prog 13 = some (.st [(0, 1), (1, 1)]) := by kernel_rfl
theorem foff13_0 : foff Tryz.prog 13 0 = some 0 := by kernel_rfl
theorem ftyp13_0 : ftyp Tryz.prog 13 0 = some (9, 0) := by kernel_rfl
theorem foff13_1 : foff Tryz.prog 13 1 = some 1 := by kernel_rfl
theorem ftyp13_1 : ftyp Tryz.prog 13 1 = some (12, 1) := by kernel_rfl
theorem szo14 : szo Tryz.prog 14 = some 2 := by kernel_rfl
theorem aggo14 : aggo Tryz.prog 14 = some true := by kernel_rfl
theorem zero14 : zeroL Tryz.prog 14 = some ([.v (.string ByteArray.empty), .v (.int .u64 0)]) := by kernel_rfl
theorem bld14 : bld Tryz.prog 14 = some (.st [(0, 1), (1, 1)]) := by kernel_rfl
theorem foff14_0 : foff Tryz.prog 14 0 = some 0 := by kernel_rfl
theorem ftyp14_0 : ftyp Tryz.prog 14 0 = some (9, 0) := by kernel_rfl
theorem foff14_1 : foff Tryz.prog 14 1 = some 1 := by kernel_rfl
theorem ftyp14_1 : ftyp Tryz.prog 14 1 = some (12, 1) := by kernel_rfl
theorem szo15 : szo Tryz.prog 15 = some 1 := by kernel_rfl
theorem aggo15 : aggo Tryz.prog 15 = some false := by kernel_rfl
theorem zero15 : zeroL Tryz.prog 15 = some ([.v (.pointer none)]) := by kernel_rfl
theorem szo16 : szo Tryz.prog 16 = some 1 := by kernel_rfl
theorem aggo16 : aggo Tryz.prog 16 = some false := by kernel_rfl
theorem zero16 : zeroL Tryz.prog 16 = some ([.v (.pointer none)]) := by kernel_rfl
theorem szo17 : szo Tryz.prog 17 = some 1 := by kernel_rfl
theorem aggo17 : aggo Tryz.prog 17 = some false := by kernel_rfl
theorem zero17 : zeroL Tryz.prog 17 = some ([.v (.pointer none)]) := by kernel_rfl
theorem szo18 : szo Tryz.prog 18 = some 1 := by kernel_rfl
theorem aggo18 : aggo Tryz.prog 18 = some true := by kernel_rfl
theorem zero18 : zeroL Tryz.prog 18 = some ([.v (.pointer none)]) := by kernel_rfl
theorem bld18 : bld Tryz.prog 18 = some (.st [(0, 1)]) := by kernel_rfl
theorem foff18_0 : foff Tryz.prog 18 0 = some 0 := by kernel_rfl
theorem ftyp18_0 : ftyp Tryz.prog 18 0 = some (17, 0) := by kernel_rfl
theorem szo19 : szo Tryz.prog 19 = some 1 := by kernel_rfl
theorem aggo19 : aggo Tryz.prog 19 = some true := by kernel_rfl
theorem zero19 : zeroL Tryz.prog 19 = some ([.v (.pointer none)]) := by kernel_rfl
theorem bld19 : bld Tryz.prog 19 = some (.st [(0, 1)]) := by kernel_rfl
theorem foff19_0 : foff Tryz.prog 19 0 = some 0 := by kernel_rfl
theorem ftyp19_0 : ftyp Tryz.prog 19 0 = some (17, 0) := by kernel_rfl
theorem szo21 : szo Tryz.prog 21 = some 1 := by kernel_rfl
theorem aggo21 : aggo Tryz.prog 21 = some false := by kernel_rfl
theorem zero21 : zeroL Tryz.prog 21 = some ([.v (.int .i32 0)]) := by kernel_rfl
theorem und21 : Tryz.prog.underlying 21 = some (.int .i32) := by kernel_rfl
theorem szo22 : szo Tryz.prog 22 = some 1 := by kernel_rfl
theorem aggo22 : aggo Tryz.prog 22 = some false := by kernel_rfl
theorem zero22 : zeroL Tryz.prog 22 = some ([.v (.slice none 0 0)]) := by kernel_rfl
theorem rowo22 : rowo Tryz.prog 22 = some (false, 0, 1) := by kernel_rfl
theorem slo22 : slo Tryz.prog 22 = some (5, 1, 1) := by kernel_rfl
theorem slTy22 : slTy Tryz.prog 22 = true := by kernel_rfl
theorem szo24 : szo Tryz.prog 24 = some 1 := by kernel_rfl
theorem aggo24 : aggo Tryz.prog 24 = some false := by kernel_rfl
theorem zero24 : zeroL Tryz.prog 24 = some ([.v (.slice none 0 0)]) := by kernel_rfl
theorem rowo24 : rowo Tryz.prog 24 = some (false, 0, 12) := by kernel_rfl
theorem slo24 : slo Tryz.prog 24 = some (63, 12, 24) := by kernel_rfl
theorem slTy24 : slTy Tryz.prog 24 = true := by kernel_rfl
theorem szo25 : szo Tryz.prog 25 = some 1 := by kernel_rfl
theorem aggo25 : aggo Tryz.prog 25 = some false := by kernel_rfl
theorem zero25 : zeroL Tryz.prog 25 = some ([.v (.slice none 0 0)]) := by kernel_rfl
theorem rowo25 : rowo Tryz.prog 25 = some (false, 0, 12) := by kernel_rfl
theorem slo25 : slo Tryz.prog 25 = some (63, 12, 24) := by kernel_rfl
theorem slTy25 : slTy Tryz.prog 25 = true := by kernel_rfl
theorem szo27 : szo Tryz.prog 27 = some 1 := by kernel_rfl
theorem aggo27 : aggo Tryz.prog 27 = some false := by kernel_rfl
theorem zero27 : zeroL Tryz.prog 27 = some ([.v (.slice none 0 0)]) := by kernel_rfl
theorem rowo27 : rowo Tryz.prog 27 = some (false, 0, 1) := by kernel_rfl
theorem slo27 : slo Tryz.prog 27 = some (2, 1, 8) := by kernel_rfl
theorem slTy27 : slTy Tryz.prog 27 = true := by kernel_rfl
theorem szo29 : szo Tryz.prog 29 = some 1 := by kernel_rfl
theorem aggo29 : aggo Tryz.prog 29 = some false := by kernel_rfl
theorem zero29 : zeroL Tryz.prog 29 = some ([.v (.slice none 0 0)]) := by kernel_rfl
theorem rowo29 : rowo Tryz.prog 29 = some (false, 0, 2) := by kernel_rfl
theorem slo29 : slo Tryz.prog 29 = some (41, 2, 16) := by kernel_rfl
theorem slTy29 : slTy Tryz.prog 29 = true := by kernel_rfl
theorem szo41 : szo Tryz.prog 41 = some 2 := by kernel_rfl
theorem aggo41 : aggo Tryz.prog 41 = some true := by kernel_rfl
theorem zero41 : zeroL Tryz.prog 41 = some ([.v (.int .i64 0), .v (.int .i64 0)]) := by kernel_rfl
theorem rowo41 : rowo Tryz.prog 41 = some (true, 2, 1) := by kernel_rfl
theorem etyp41 : etyp Tryz.prog 41 = some (2, 2, 1) := by kernel_rfl
theorem bld41 : bld Tryz.prog 41 = some (.ar 1) := by kernel_rfl
theorem eqo41 : eqo Tryz.prog 41 = some [.i .i64, .i .i64] := by kernel_rfl
theorem szo47 : szo Tryz.prog 47 = some 1 := by kernel_rfl
theorem aggo47 : aggo Tryz.prog 47 = some false := by kernel_rfl
theorem zero47 : zeroL Tryz.prog 47 = some ([.v (.pointer none)]) := by kernel_rfl
theorem szo61 : szo Tryz.prog 61 = some 1 := by kernel_rfl
theorem aggo61 : aggo Tryz.prog 61 = some false := by kernel_rfl
theorem zero61 : zeroL Tryz.prog 61 = some ([.v (.int .u16 0)]) := by kernel_rfl
theorem und61 : Tryz.prog.underlying 61 = some (.int .u16) := by kernel_rfl
theorem szo62 : szo Tryz.prog 62 = some 12 := by kernel_rfl
theorem aggo62 : aggo Tryz.prog 62 = some true := by kernel_rfl
theorem zero62 : zeroL Tryz.prog 62 = some (List.replicate 12 (.v (.int .u16 0))) := by kernel_rfl
theorem rowo62 : rowo Tryz.prog 62 = some (true, 12, 1) := by kernel_rfl
theorem etyp62 : etyp Tryz.prog 62 = some (12, 61, 1) := by kernel_rfl
theorem bld62 : bld Tryz.prog 62 = some (.ar 1) := by kernel_rfl
theorem eqo62 : eqo Tryz.prog 62 = some (List.replicate 12 (.i .u16)) := by kernel_rfl
theorem szo63 : szo Tryz.prog 63 = some 12 := by kernel_rfl
theorem aggo63 : aggo Tryz.prog 63 = some true := by kernel_rfl
theorem zero63 : zeroL Tryz.prog 63 = some (List.replicate 12 (.v (.int .u16 0))) := by kernel_rfl
theorem rowo63 : rowo Tryz.prog 63 = some (true, 12, 1) := by kernel_rfl
theorem etyp63 : etyp Tryz.prog 63 = some (12, 61, 1) := by kernel_rfl
theorem bld63 : bld Tryz.prog 63 = some (.ar 1) := by kernel_rfl
theorem eqo63 : eqo Tryz.prog 63 = some (List.replicate 12 (.i .u16)) := by kernel_rfl
theorem szo81 : szo Tryz.prog 81 = some 1 := by kernel_rfl
theorem aggo81 : aggo Tryz.prog 81 = some false := by kernel_rfl
theorem zero81 : zeroL Tryz.prog 81 = some ([.v (.pointer none)]) := by kernel_rfl
theorem szo82 : szo Tryz.prog 82 = some 1 := by kernel_rfl
theorem aggo82 : aggo Tryz.prog 82 = some false := by kernel_rfl
theorem zero82 : zeroL Tryz.prog 82 = some ([.v (.int .u64 0)]) := by kernel_rfl
theorem und82 : Tryz.prog.underlying 82 = some (.int .u64) := by kernel_rfl
theorem szo83 : szo Tryz.prog 83 = some 1 := by kernel_rfl
theorem aggo83 : aggo Tryz.prog 83 = some false := by kernel_rfl
theorem zero83 : zeroL Tryz.prog 83 = some ([.v (.int .u64 0)]) := by kernel_rfl
theorem und83 : Tryz.prog.underlying 83 = some (.int .u64) := by kernel_rfl
theorem szo84 : szo Tryz.prog 84 = some 3 := by kernel_rfl
theorem aggo84 : aggo Tryz.prog 84 = some true := by kernel_rfl
theorem zero84 : zeroL Tryz.prog 84 = some ([.v (.slice none 0 0), .v (.int .i64 0), .v (.int .u64 0)]) := by kernel_rfl
theorem bld84 : bld Tryz.prog 84 = some (.st [(0, 1), (1, 1), (2, 1)]) := by kernel_rfl
theorem foff84_0 : foff Tryz.prog 84 0 = some 0 := by kernel_rfl
theorem ftyp84_0 : ftyp Tryz.prog 84 0 = some (22, 0) := by kernel_rfl
theorem foff84_1 : foff Tryz.prog 84 1 = some 1 := by kernel_rfl
theorem ftyp84_1 : ftyp Tryz.prog 84 1 = some (3, 1) := by kernel_rfl
theorem foff84_2 : foff Tryz.prog 84 2 = some 2 := by kernel_rfl
theorem ftyp84_2 : ftyp Tryz.prog 84 2 = some (83, 2) := by kernel_rfl
theorem szo85 : szo Tryz.prog 85 = some 3 := by kernel_rfl
theorem aggo85 : aggo Tryz.prog 85 = some true := by kernel_rfl
theorem zero85 : zeroL Tryz.prog 85 = some ([.v (.slice none 0 0), .v (.int .i64 0), .v (.int .u64 0)]) := by kernel_rfl
theorem bld85 : bld Tryz.prog 85 = some (.st [(0, 1), (1, 1), (2, 1)]) := by kernel_rfl
theorem foff85_0 : foff Tryz.prog 85 0 = some 0 := by kernel_rfl
theorem ftyp85_0 : ftyp Tryz.prog 85 0 = some (22, 0) := by kernel_rfl
theorem foff85_1 : foff Tryz.prog 85 1 = some 1 := by kernel_rfl
theorem ftyp85_1 : ftyp Tryz.prog 85 1 = some (3, 1) := by kernel_rfl
theorem foff85_2 : foff Tryz.prog 85 2 = some 2 := by kernel_rfl
theorem ftyp85_2 : ftyp Tryz.prog 85 2 = some (83, 2) := by kernel_rfl
theorem szo96 : szo Tryz.prog 96 = some 1 := by kernel_rfl
theorem aggo96 : aggo Tryz.prog 96 = some false := by kernel_rfl
theorem zero96 : zeroL Tryz.prog 96 = some ([.v (.slice none 0 0)]) := by kernel_rfl
theorem rowo96 : rowo Tryz.prog 96 = some (false, 0, 2) := by kernel_rfl
theorem slo96 : slo Tryz.prog 96 = some (101, 2, 2) := by kernel_rfl
theorem slTy96 : slTy Tryz.prog 96 = true := by kernel_rfl
theorem szo99 : szo Tryz.prog 99 = some 1 := by kernel_rfl
theorem aggo99 : aggo Tryz.prog 99 = some false := by kernel_rfl
theorem zero99 : zeroL Tryz.prog 99 = some ([.v (.int .i8 0)]) := by kernel_rfl
theorem und99 : Tryz.prog.underlying 99 = some (.int .i8) := by kernel_rfl
theorem szo100 : szo Tryz.prog 100 = some 2 := by kernel_rfl
theorem aggo100 : aggo Tryz.prog 100 = some true := by kernel_rfl
theorem zero100 : zeroL Tryz.prog 100 = some ([.v (.int .i8 0), .v (.int .i8 0)]) := by kernel_rfl
theorem bld100 : bld Tryz.prog 100 = some (.st [(0, 1), (1, 1)]) := by kernel_rfl
theorem foff100_0 : foff Tryz.prog 100 0 = some 0 := by kernel_rfl
theorem ftyp100_0 : ftyp Tryz.prog 100 0 = some (99, 0) := by kernel_rfl
theorem foff100_1 : foff Tryz.prog 100 1 = some 1 := by kernel_rfl
theorem ftyp100_1 : ftyp Tryz.prog 100 1 = some (99, 1) := by kernel_rfl
theorem eqo100 : eqo Tryz.prog 100 = some [.i .i8, .i .i8] := by kernel_rfl
theorem szo101 : szo Tryz.prog 101 = some 2 := by kernel_rfl
theorem aggo101 : aggo Tryz.prog 101 = some true := by kernel_rfl
theorem zero101 : zeroL Tryz.prog 101 = some ([.v (.int .i8 0), .v (.int .i8 0)]) := by kernel_rfl
theorem bld101 : bld Tryz.prog 101 = some (.st [(0, 1), (1, 1)]) := by kernel_rfl
theorem foff101_0 : foff Tryz.prog 101 0 = some 0 := by kernel_rfl
theorem ftyp101_0 : ftyp Tryz.prog 101 0 = some (99, 0) := by kernel_rfl
theorem foff101_1 : foff Tryz.prog 101 1 = some 1 := by kernel_rfl
theorem ftyp101_1 : ftyp Tryz.prog 101 1 = some (99, 1) := by kernel_rfl
theorem eqo101 : eqo Tryz.prog 101 = some [.i .i8, .i .i8] := by kernel_rfl
theorem szo115 : szo Tryz.prog 115 = some 1 := by kernel_rfl
theorem aggo115 : aggo Tryz.prog 115 = some false := by kernel_rfl
theorem zero115 : zeroL Tryz.prog 115 = some ([.v (.int .i64 0)]) := by kernel_rfl
theorem und115 : Tryz.prog.underlying 115 = some (.int .i64) := by kernel_rfl
theorem szo123 : szo Tryz.prog 123 = some 1 := by kernel_rfl
theorem aggo123 : aggo Tryz.prog 123 = some false := by kernel_rfl
theorem zero123 : zeroL Tryz.prog 123 = some ([.v (.int .u32 0)]) := by kernel_rfl
theorem und123 : Tryz.prog.underlying 123 = some (.int .u32) := by kernel_rfl
theorem szo127 : szo Tryz.prog 127 = some 1 := by kernel_rfl
theorem aggo127 : aggo Tryz.prog 127 = some false := by kernel_rfl
theorem zero127 : zeroL Tryz.prog 127 = some ([.v (.slice none 0 0)]) := by kernel_rfl
theorem rowo127 : rowo Tryz.prog 127 = some (false, 0, 1) := by kernel_rfl
theorem slo127 : slo Tryz.prog 127 = some (61, 1, 2) := by kernel_rfl
theorem slTy127 : slTy Tryz.prog 127 = true := by kernel_rfl
theorem szo131 : szo Tryz.prog 131 = some 1 := by kernel_rfl
theorem aggo131 : aggo Tryz.prog 131 = some false := by kernel_rfl
theorem zero131 : zeroL Tryz.prog 131 = some ([.v (.int .u64 0)]) := by kernel_rfl
theorem und131 : Tryz.prog.underlying 131 = some (.int .u64) := by kernel_rfl
theorem szo135 : szo Tryz.prog 135 = some 1 := by kernel_rfl
theorem aggo135 : aggo Tryz.prog 135 = some false := by kernel_rfl
theorem zero135 : zeroL Tryz.prog 135 = some ([.v (.pointer none)]) := by kernel_rfl
theorem szo138 : szo Tryz.prog 138 = some 1 := by kernel_rfl
theorem aggo138 : aggo Tryz.prog 138 = some false := by kernel_rfl
theorem zero138 : zeroL Tryz.prog 138 = some ([.v (.pointer none)]) := by kernel_rfl
theorem szo142 : szo Tryz.prog 142 = some 4 := by kernel_rfl
theorem aggo142 : aggo Tryz.prog 142 = some true := by kernel_rfl
theorem zero142 : zeroL Tryz.prog 142 = some ([.v (.pointer none), .v (.pointer none), .v (.pointer none), .v (.string ByteArray.empty)]) := by kernel_rfl
theorem bld142 : bld Tryz.prog 142 = some (.st [(0, 1), (1, 1), (2, 1), (3, 1)]) := by kernel_rfl
theorem foff142_0 : foff Tryz.prog 142 0 = some 0 := by kernel_rfl
theorem ftyp142_0 : ftyp Tryz.prog 142 0 = some (17, 0) := by kernel_rfl
theorem foff142_1 : foff Tryz.prog 142 1 = some 1 := by kernel_rfl
theorem ftyp142_1 : ftyp Tryz.prog 142 1 = some (17, 1) := by kernel_rfl
theorem foff142_2 : foff Tryz.prog 142 2 = some 2 := by kernel_rfl
theorem ftyp142_2 : ftyp Tryz.prog 142 2 = some (17, 2) := by kernel_rfl
theorem foff142_3 : foff Tryz.prog 142 3 = some 3 := by kernel_rfl
theorem ftyp142_3 : ftyp Tryz.prog 142 3 = some (9, 3) := by kernel_rfl
theorem szo143 : szo Tryz.prog 143 = some 4 := by kernel_rfl
theorem aggo143 : aggo Tryz.prog 143 = some true := by kernel_rfl
theorem zero143 : zeroL Tryz.prog 143 = some ([.v (.pointer none), .v (.pointer none), .v (.pointer none), .v (.string ByteArray.empty)]) := by kernel_rfl
theorem bld143 : bld Tryz.prog 143 = some (.st [(0, 1), (1, 1), (2, 1), (3, 1)]) := by kernel_rfl
theorem foff143_0 : foff Tryz.prog 143 0 = some 0 := by kernel_rfl
theorem ftyp143_0 : ftyp Tryz.prog 143 0 = some (17, 0) := by kernel_rfl
theorem foff143_1 : foff Tryz.prog 143 1 = some 1 := by kernel_rfl
theorem ftyp143_1 : ftyp Tryz.prog 143 1 = some (17, 1) := by kernel_rfl
theorem foff143_2 : foff Tryz.prog 143 2 = some 2 := by kernel_rfl
theorem ftyp143_2 : ftyp Tryz.prog 143 2 = some (17, 2) := by kernel_rfl
theorem foff143_3 : foff Tryz.prog 143 3 = some 3 := by kernel_rfl
theorem ftyp143_3 : ftyp Tryz.prog 143 3 = some (9, 3) := by kernel_rfl
theorem szo144 : szo Tryz.prog 144 = some 0 := by kernel_rfl
theorem aggo144 : aggo Tryz.prog 144 = some true := by kernel_rfl
theorem zero144 : zeroL Tryz.prog 144 = some ([]) := by kernel_rfl
theorem rowo144 : rowo Tryz.prog 144 = some (true, 0, 1) := by kernel_rfl
theorem etyp144 : etyp Tryz.prog 144 = some (0, 16, 1) := by kernel_rfl
theorem bld144 : bld Tryz.prog 144 = some (.ar 1) := by kernel_rfl
theorem szo145 : szo Tryz.prog 145 = some 0 := by kernel_rfl
theorem aggo145 : aggo Tryz.prog 145 = some true := by kernel_rfl
theorem zero145 : zeroL Tryz.prog 145 = some ([]) := by kernel_rfl
theorem bld145 : bld Tryz.prog 145 = some (.st [(0, 0)]) := by kernel_rfl
theorem ftyp145_0 : ftyp Tryz.prog 145 0 = some (144, 0) := by kernel_rfl
theorem szo146 : szo Tryz.prog 146 = some 0 := by kernel_rfl
theorem aggo146 : aggo Tryz.prog 146 = some true := by kernel_rfl
theorem zero146 : zeroL Tryz.prog 146 = some ([]) := by kernel_rfl
theorem bld146 : bld Tryz.prog 146 = some (.st [(0, 0)]) := by kernel_rfl
theorem ftyp146_0 : ftyp Tryz.prog 146 0 = some (144, 0) := by kernel_rfl
theorem szo148 : szo Tryz.prog 148 = some 1 := by kernel_rfl
theorem aggo148 : aggo Tryz.prog 148 = some false := by kernel_rfl
theorem zero148 : zeroL Tryz.prog 148 = some ([.v (.int .u8 0)]) := by kernel_rfl
theorem und148 : Tryz.prog.underlying 148 = some (.int .u8) := by kernel_rfl
theorem szo149 : szo Tryz.prog 149 = some 1 := by kernel_rfl
theorem aggo149 : aggo Tryz.prog 149 = some false := by kernel_rfl
theorem zero149 : zeroL Tryz.prog 149 = some ([.v (.int .u8 0)]) := by kernel_rfl
theorem und149 : Tryz.prog.underlying 149 = some (.int .u8) := by kernel_rfl
theorem szo151 : szo Tryz.prog 151 = some 1 := by kernel_rfl
theorem aggo151 : aggo Tryz.prog 151 = some false := by kernel_rfl
theorem zero151 : zeroL Tryz.prog 151 = some ([.v (.pointer none)]) := by kernel_rfl
theorem szo152 : szo Tryz.prog 152 = some 1 := by kernel_rfl
theorem aggo152 : aggo Tryz.prog 152 = some false := by kernel_rfl
theorem zero152 : zeroL Tryz.prog 152 = some ([.v (.int .i32 0)]) := by kernel_rfl
theorem und152 : Tryz.prog.underlying 152 = some (.int .i32) := by kernel_rfl
theorem szo153 : szo Tryz.prog 153 = some 1 := by kernel_rfl
theorem aggo153 : aggo Tryz.prog 153 = some false := by kernel_rfl
theorem zero153 : zeroL Tryz.prog 153 = some ([.v (.int .i32 0)]) := by kernel_rfl
theorem und153 : Tryz.prog.underlying 153 = some (.int .i32) := by kernel_rfl
theorem szo154 : szo Tryz.prog 154 = some 11 := by kernel_rfl
theorem aggo154 : aggo Tryz.prog 154 = some true := by kernel_rfl
theorem zero154 : zeroL Tryz.prog 154 = some ([.v (.int .u64 0), .v (.int .u64 0), .v (.int .u32 0), .v (.int .u8 0), .v (.int .u8 0), .v (.int .u8 0), .v (.int .u8 0), .v .nilFunc, .v (.pointer none), .v (.int .i32 0), .v (.int .i32 0)]) := by kernel_rfl
theorem foff154_0 : foff Tryz.prog 154 0 = some 0 := by kernel_rfl
theorem ftyp154_0 : ftyp Tryz.prog 154 0 = some (12, 0) := by kernel_rfl
theorem foff154_1 : foff Tryz.prog 154 1 = some 1 := by kernel_rfl
theorem ftyp154_1 : ftyp Tryz.prog 154 1 = some (12, 1) := by kernel_rfl
theorem foff154_2 : foff Tryz.prog 154 2 = some 2 := by kernel_rfl
theorem ftyp154_2 : ftyp Tryz.prog 154 2 = some (123, 2) := by kernel_rfl
theorem foff154_3 : foff Tryz.prog 154 3 = some 3 := by kernel_rfl
theorem ftyp154_3 : ftyp Tryz.prog 154 3 = some (148, 3) := by kernel_rfl
theorem foff154_4 : foff Tryz.prog 154 4 = some 4 := by kernel_rfl
theorem ftyp154_4 : ftyp Tryz.prog 154 4 = some (5, 4) := by kernel_rfl
theorem foff154_5 : foff Tryz.prog 154 5 = some 5 := by kernel_rfl
theorem ftyp154_5 : ftyp Tryz.prog 154 5 = some (5, 5) := by kernel_rfl
theorem foff154_6 : foff Tryz.prog 154 6 = some 6 := by kernel_rfl
theorem ftyp154_6 : ftyp Tryz.prog 154 6 = some (149, 6) := by kernel_rfl
theorem foff154_8 : foff Tryz.prog 154 8 = some 8 := by kernel_rfl
theorem ftyp154_8 : ftyp Tryz.prog 154 8 = some (151, 8) := by kernel_rfl
theorem foff154_9 : foff Tryz.prog 154 9 = some 9 := by kernel_rfl
theorem ftyp154_9 : ftyp Tryz.prog 154 9 = some (152, 9) := by kernel_rfl
theorem foff154_10 : foff Tryz.prog 154 10 = some 10 := by kernel_rfl
theorem ftyp154_10 : ftyp Tryz.prog 154 10 = some (153, 10) := by kernel_rfl
theorem szo155 : szo Tryz.prog 155 = some 11 := by kernel_rfl
theorem aggo155 : aggo Tryz.prog 155 = some true := by kernel_rfl
theorem zero155 : zeroL Tryz.prog 155 = some ([.v (.int .u64 0), .v (.int .u64 0), .v (.int .u32 0), .v (.int .u8 0), .v (.int .u8 0), .v (.int .u8 0), .v (.int .u8 0), .v .nilFunc, .v (.pointer none), .v (.int .i32 0), .v (.int .i32 0)]) := by kernel_rfl
theorem foff155_0 : foff Tryz.prog 155 0 = some 0 := by kernel_rfl
theorem ftyp155_0 : ftyp Tryz.prog 155 0 = some (12, 0) := by kernel_rfl
theorem foff155_1 : foff Tryz.prog 155 1 = some 1 := by kernel_rfl
theorem ftyp155_1 : ftyp Tryz.prog 155 1 = some (12, 1) := by kernel_rfl
theorem foff155_2 : foff Tryz.prog 155 2 = some 2 := by kernel_rfl
theorem ftyp155_2 : ftyp Tryz.prog 155 2 = some (123, 2) := by kernel_rfl
theorem foff155_3 : foff Tryz.prog 155 3 = some 3 := by kernel_rfl
theorem ftyp155_3 : ftyp Tryz.prog 155 3 = some (148, 3) := by kernel_rfl
theorem foff155_4 : foff Tryz.prog 155 4 = some 4 := by kernel_rfl
theorem ftyp155_4 : ftyp Tryz.prog 155 4 = some (5, 4) := by kernel_rfl
theorem foff155_5 : foff Tryz.prog 155 5 = some 5 := by kernel_rfl
theorem ftyp155_5 : ftyp Tryz.prog 155 5 = some (5, 5) := by kernel_rfl
theorem foff155_6 : foff Tryz.prog 155 6 = some 6 := by kernel_rfl
theorem ftyp155_6 : ftyp Tryz.prog 155 6 = some (149, 6) := by kernel_rfl
theorem foff155_8 : foff Tryz.prog 155 8 = some 8 := by kernel_rfl
theorem ftyp155_8 : ftyp Tryz.prog 155 8 = some (151, 8) := by kernel_rfl
theorem foff155_9 : foff Tryz.prog 155 9 = some 9 := by kernel_rfl
theorem ftyp155_9 : ftyp Tryz.prog 155 9 = some (152, 9) := by kernel_rfl
theorem foff155_10 : foff Tryz.prog 155 10 = some 10 := by kernel_rfl
theorem ftyp155_10 : ftyp Tryz.prog 155 10 = some (153, 10) := by kernel_rfl
attribute [go_sem] szo2 aggo2 zero2 und2 szo3 aggo3 zero3 und3 szo4 aggo4 zero4 und4 szo5 aggo5 zero5 und5 szo6 aggo6 zero6 und6 szo7 aggo7 zero7 bld7 foff7_0 ftyp7_0 foff7_1 ftyp7_1 foff7_2 ftyp7_2 foff7_3 ftyp7_3 eqo7 szo8 aggo8 zero8 bld8 foff8_0 ftyp8_0 foff8_1 ftyp8_1 foff8_2 ftyp8_2 foff8_3 ftyp8_3 eqo8 szo9 aggo9 zero9 und9 szo10 aggo10 zero10 und10 szo11 aggo11 zero11 und11 szo12 aggo12 zero12 und12 szo13 aggo13 zero13 bld13 foff13_0 ftyp13_0 foff13_1 ftyp13_1 szo14 aggo14 zero14 bld14 foff14_0 ftyp14_0 foff14_1 ftyp14_1 szo15 aggo15 zero15 szo16 aggo16 zero16 szo17 aggo17 zero17 szo18 aggo18 zero18 bld18 foff18_0 ftyp18_0 szo19 aggo19 zero19 bld19 foff19_0 ftyp19_0 szo21 aggo21 zero21 und21 szo22 aggo22 zero22 rowo22 slo22 slTy22 szo24 aggo24 zero24 rowo24 slo24 slTy24 szo25 aggo25 zero25 rowo25 slo25 slTy25 szo27 aggo27 zero27 rowo27 slo27 slTy27 szo29 aggo29 zero29 rowo29 slo29 slTy29 szo41 aggo41 zero41 rowo41 etyp41 bld41 eqo41 szo47 aggo47 zero47 szo61 aggo61 zero61 und61 szo62 aggo62 zero62 rowo62 etyp62 bld62 eqo62 szo63 aggo63 zero63 rowo63 etyp63 bld63 eqo63 szo81 aggo81 zero81 szo82 aggo82 zero82 und82 szo83 aggo83 zero83 und83 szo84 aggo84 zero84 bld84 foff84_0 ftyp84_0 foff84_1 ftyp84_1 foff84_2 ftyp84_2 szo85 aggo85 zero85 bld85 foff85_0 ftyp85_0 foff85_1 ftyp85_1 foff85_2 ftyp85_2 szo96 aggo96 zero96 rowo96 slo96 slTy96 szo99 aggo99 zero99 und99 szo100 aggo100 zero100 bld100 foff100_0 ftyp100_0 foff100_1 ftyp100_1 eqo100 szo101 aggo101 zero101 bld101 foff101_0 ftyp101_0 foff101_1 ftyp101_1 eqo101 szo115 aggo115 zero115 und115 szo123 aggo123 zero123 und123 szo127 aggo127 zero127 rowo127 slo127 slTy127 szo131 aggo131 zero131 und131 szo135 aggo135 zero135 szo138 aggo138 zero138 szo142 aggo142 zero142 bld142 foff142_0 ftyp142_0 foff142_1 ftyp142_1 foff142_2 ftyp142_2 foff142_3 ftyp142_3 szo143 aggo143 zero143 bld143 foff143_0 ftyp143_0 foff143_1 ftyp143_1 foff143_2 ftyp143_2 foff143_3 ftyp143_3 szo144 aggo144 zero144 rowo144 etyp144 bld144 szo145 aggo145 zero145 bld145 ftyp145_0 szo146 aggo146 zero146 bld146 ftyp146_0 szo148 aggo148 zero148 und148 szo149 aggo149 zero149 und149 szo151 aggo151 zero151 szo152 aggo152 zero152 und152 szo153 aggo153 zero153 und153 szo154 aggo154 zero154 foff154_0 ftyp154_0 foff154_1 ftyp154_1 foff154_2 ftyp154_2 foff154_3 ftyp154_3 foff154_4 ftyp154_4 foff154_5 ftyp154_5 foff154_6 ftyp154_6 foff154_8 ftyp154_8 foff154_9 ftyp154_9 foff154_10 ftyp154_10 szo155 aggo155 zero155 foff155_0 ftyp155_0 foff155_1 ftyp155_1 foff155_2 ftyp155_2 foff155_3 ftyp155_3 foff155_4 ftyp155_4 foff155_5 ftyp155_5 foff155_6 ftyp155_6 foff155_8 ftyp155_8 foff155_9 ftyp155_9 foff155_10 ftyp155_10
theorem mixed : Tryz.prog.follows .mixedOrders = true := by kernel_rfl
end Go.Proofs.YtaekjojblkhfdaaGreat
