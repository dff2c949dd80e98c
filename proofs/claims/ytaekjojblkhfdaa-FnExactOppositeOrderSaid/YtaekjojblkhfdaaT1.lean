/- What the types of the translated program are, as the walk asks for it. -/
import Derived.KernelRfl
import Derived.Test.YtaekjojblkhfdaaProg
import Derived.Test.YtaekjojblkhfdaaLC
set_option linter.unusedVariables false
set_option linter.unusedSimpArgs false
set_option maxRecDepth 8000
set_option maxHeartbeats 4000000
namespace Go.Proofs.Ytaekjojblkhfdaa
open Go Go.Sx
theorem szo2 : szo Try.prog 2 = some 1 := by kernel_rfl
theorem aggo2 : aggo Try.prog 2 = some false := by kernel_rfl
theorem zero2 : zeroL Try.prog 2 = some ([.v (.int .i64 0)]) := by kernel_rfl
theorem und2 : Try.prog.underlying 2 = some (.int .i64) := by kernel_rfl
theorem szo3 : szo Try.prog 3 = some 1 := by kernel_rfl
theorem aggo3 : aggo Try.prog 3 = some false := by kernel_rfl
theorem zero3 : zeroL Try.prog 3 = some ([.v (.int .i64 0)]) := by kernel_rfl
theorem und3 : Try.prog.underlying 3 = some (.int .i64) := by kernel_rfl
theorem szo4 : szo Try.prog 4 = some 1 := by kernel_rfl
theorem aggo4 : aggo Try.prog 4 = some false := by kernel_rfl
theorem zero4 : zeroL Try.prog 4 = some ([.v (.bool false)]) := by kernel_rfl
theorem und4 : Try.prog.underlying 4 = some .bool := by kernel_rfl
theorem szo5 : szo Try.prog 5 = some 1 := by kernel_rfl
theorem aggo5 : aggo Try.prog 5 = some false := by kernel_rfl
theorem zero5 : zeroL Try.prog 5 = some ([.v (.int .u8 0)]) := by kernel_rfl
theorem und5 : Try.prog.underlying 5 = some (.int .u8) := by kernel_rfl
theorem szo6 : szo Try.prog 6 = some 1 := by kernel_rfl
theorem aggo6 : aggo Try.prog 6 = some false := by kernel_rfl
theorem zero6 : zeroL Try.prog 6 = some ([.v (.int .u8 0)]) := by kernel_rfl
theorem und6 : Try.prog.underlying 6 = some (.int .u8) := by kernel_rfl
theorem szo7 : szo Try.prog 7 = some 4 := by kernel_rfl
theorem aggo7 : aggo Try.prog 7 = some true := by kernel_rfl
theorem zero7 : zeroL Try.prog 7 = some ([.v (.int .i64 0), .v (.int .i64 0), .v (.bool false), .v (.int .u8 0)]) := by kernel_rfl
theorem bld7 : bld Try.prog 7 = some (.st [(0, 1), (1, 1), (2, 1), (3, 1)]) := by kernel_rfl
theorem foff7_0 : foff Try.prog 7 0 = some 0 := by kernel_rfl
theorem ftyp7_0 : ftyp Try.prog 7 0 = some (2, 0) := by kernel_rfl
theorem foff7_1 : foff Try.prog 7 1 = some 1 := by kernel_rfl
theorem ftyp7_1 : ftyp Try.prog 7 1 = some (3, 1) := by kernel_rfl
theorem foff7_2 : foff Try.prog 7 2 = some 2 := by kernel_rfl
theorem ftyp7_2 : ftyp Try.prog 7 2 = some (4, 2) := by kernel_rfl
theorem foff7_3 : foff Try.prog 7 3 = some 3 := by kernel_rfl
theorem ftyp7_3 : ftyp Try.prog 7 3 = some (6, 3) := by kernel_rfl
theorem eqo7 : eqo Try.prog 7 = some [.i .i64, .i .i64, .b, .i .u8] := by kernel_rfl
theorem szo8 : szo Try.prog 8 = some 4 := by kernel_rfl
theorem aggo8 : aggo Try.prog 8 = some true := by kernel_rfl
theorem zero8 : zeroL Try.prog 8 = some ([.v (.int .i64 0), .v (.int .i64 0), .v (.bool false), .v (.int .u8 0)]) := by kernel_rfl
theorem bld8 : bld Try.prog 8 = some (.st [(0, 1), (1, 1), (2, 1), (3, 1)]) := by kernel_rfl
theorem foff8_0 : foff Try.prog 8 0 = some 0 := by kernel_rfl
theorem ftyp8_0 : ftyp Try.prog 8 0 = some (2, 0) := by kernel_rfl
theorem foff8_1 : foff Try.prog 8 1 = some 1 := by kernel_rfl
theorem ftyp8_1 : ftyp Try.prog 8 1 = some (3, 1) := by kernel_rfl
theorem foff8_2 : foff Try.prog 8 2 = some 2 := by kernel_rfl
theorem ftyp8_2 : ftyp Try.prog 8 2 = some (4, 2) := by kernel_rfl
theorem foff8_3 : foff Try.prog 8 3 = some 3 := by kernel_rfl
theorem ftyp8_3 : ftyp Try.prog 8 3 = some (6, 3) := by kernel_rfl
theorem eqo8 : eqo Try.prog 8 = some [.i .i64, .i .i64, .b, .i .u8] := by kernel_rfl
theorem szo9 : szo Try.prog 9 = some 1 := by kernel_rfl
theorem aggo9 : aggo Try.prog 9 = some false := by kernel_rfl
theorem zero9 : zeroL Try.prog 9 = some ([.v (.string ByteArray.empty)]) := by kernel_rfl
theorem und9 : Try.prog.underlying 9 = some .string := by kernel_rfl
theorem szo10 : szo Try.prog 10 = some 1 := by kernel_rfl
theorem aggo10 : aggo Try.prog 10 = some false := by kernel_rfl
theorem zero10 : zeroL Try.prog 10 = some ([.v (.string ByteArray.empty)]) := by kernel_rfl
theorem und10 : Try.prog.underlying 10 = some .string := by kernel_rfl
theorem szo11 : szo Try.prog 11 = some 1 := by kernel_rfl
theorem aggo11 : aggo Try.prog 11 = some false := by kernel_rfl
theorem zero11 : zeroL Try.prog 11 = some ([.v (.string ByteArray.empty)]) := by kernel_rfl
theorem und11 : Try.prog.underlying 11 = some .string := by kernel_rfl
theorem szo12 : szo Try.prog 12 = some 1 := by kernel_rfl
theorem aggo12 : aggo Try.prog 12 = some false := by kernel_rfl
theorem zero12 : zeroL Try.prog 12 = some ([.v (.int .u64 0)]) := by kernel_rfl
theorem und12 : Try.prog.underlying 12 = some (.int .u64) := by kernel_rfl
theorem szo13 : szo Try.prog 13 = some 2 := by kernel_rfl
theorem aggo13 : aggo Try.prog 13 = some true := by kernel_rfl
theorem zero13 : zeroL Try.prog 13 = some ([.v (.string ByteArray.empty), .v (.int .u64 0)]) := by kernel_rfl
theorem bld13 : bld Try.prog 13 = some (.st [(0, 1), (1, 1)]) := by kernel_rfl
theorem foff13_0 : foff Try.prog 13 0 = some 0 := by kernel_rfl
theorem ftyp13_0 : ftyp Try.prog 13 0 = some (9, 0) := by kernel_rfl
theorem foff13_1 : foff Try.prog 13 1 = some 1 := by kernel_rfl
theorem ftyp13_1 : ftyp Try.prog 13 1 = some (12, 1) := by kernel_rfl
theorem szo14 : szo Try.prog 14 = some 2 := by kernel_rfl
theorem aggo14 : aggo Try.prog 14 = some true := by kernel_rfl
theorem zero14 : zeroL Try.prog 14 = some ([.v (.string ByteArray.empty), .v (.int .u64 0)]) := by kernel_rfl
theorem bld14 : bld Try.prog 14 = some (.st [(0, 1), (1, 1)]) := by kernel_rfl
theorem foff14_0 : foff Try.prog 14 0 = some 0 := by kernel_rfl
theorem ftyp14_0 : ftyp Try.prog 14 0 = some (9, 0) := by kernel_rfl
theorem foff14_1 : foff Try.prog 14 1 = some 1 := by kernel_rfl
theorem ftyp14_1 : ftyp Try.prog 14 1 = some (12, 1) := by kernel_rfl
theorem szo15 : szo Try.prog 15 = some 1 := by kernel_rfl
theorem aggo15 : aggo Try.prog 15 = some false := by kernel_rfl
theorem zero15 : zeroL Try.prog 15 = some ([.v (.pointer none)]) := by kernel_rfl
theorem szo16 : szo Try.prog 16 = some 1 := by kernel_rfl
theorem aggo16 : aggo Try.prog 16 = some false := by kernel_rfl
theorem zero16 : zeroL Try.prog 16 = some ([.v (.pointer none)]) := by kernel_rfl
theorem szo17 : szo Try.prog 17 = some 1 := by kernel_rfl
theorem aggo17 : aggo Try.prog 17 = some false := by kernel_rfl
theorem zero17 : zeroL Try.prog 17 = some ([.v (.pointer none)]) := by kernel_rfl
theorem szo18 : szo Try.prog 18 = some 1 := by kernel_rfl
theorem aggo18 : aggo Try.prog 18 = some true := by kernel_rfl
theorem zero18 : zeroL Try.prog 18 = some ([.v (.pointer none)]) := by kernel_rfl
theorem bld18 : bld Try.prog 18 = some (.st [(0, 1)]) := by kernel_rfl
theorem foff18_0 : foff Try.prog 18 0 = some 0 := by kernel_rfl
theorem ftyp18_0 : ftyp Try.prog 18 0 = some (17, 0) := by kernel_rfl
theorem szo19 : szo Try.prog 19 = some 1 := by kernel_rfl
theorem aggo19 : aggo Try.prog 19 = some true := by kernel_rfl
theorem zero19 : zeroL Try.prog 19 = some ([.v (.pointer none)]) := by kernel_rfl
theorem bld19 : bld Try.prog 19 = some (.st [(0, 1)]) := by kernel_rfl
theorem foff19_0 : foff Try.prog 19 0 = some 0 := by kernel_rfl
theorem ftyp19_0 : ftyp Try.prog 19 0 = some (17, 0) := by kernel_rfl
theorem szo21 : szo Try.prog 21 = some 1 := by kernel_rfl
theorem aggo21 : aggo Try.prog 21 = some false := by kernel_rfl
theorem zero21 : zeroL Try.prog 21 = some ([.v (.int .i32 0)]) := by kernel_rfl
theorem und21 : Try.prog.underlying 21 = some (.int .i32) := by kernel_rfl
theorem szo22 : szo Try.prog 22 = some 1 := by kernel_rfl
theorem aggo22 : aggo Try.prog 22 = some false := by kernel_rfl
theorem zero22 : zeroL Try.prog 22 = some ([.v (.slice none 0 0)]) := by kernel_rfl
theorem rowo22 : rowo Try.prog 22 = some (false, 0, 12) := by kernel_rfl
theorem slo22 : slo Try.prog 22 = some (42, 12, 24) := by kernel_rfl
theorem slTy22 : slTy Try.prog 22 = true := by kernel_rfl
theorem szo23 : szo Try.prog 23 = some 1 := by kernel_rfl
theorem aggo23 : aggo Try.prog 23 = some false := by kernel_rfl
theorem zero23 : zeroL Try.prog 23 = some ([.v (.slice none 0 0)]) := by kernel_rfl
theorem rowo23 : rowo Try.prog 23 = some (false, 0, 1) := by kernel_rfl
theorem slo23 : slo Try.prog 23 = some (2, 1, 8) := by kernel_rfl
theorem slTy23 : slTy Try.prog 23 = true := by kernel_rfl
theorem szo27 : szo Try.prog 27 = some 1 := by kernel_rfl
theorem aggo27 : aggo Try.prog 27 = some false := by kernel_rfl
theorem zero27 : zeroL Try.prog 27 = some ([.v (.slice none 0 0)]) := by kernel_rfl
theorem rowo27 : rowo Try.prog 27 = some (false, 0, 12) := by kernel_rfl
theorem slo27 : slo Try.prog 27 = some (43, 12, 24) := by kernel_rfl
theorem slTy27 : slTy Try.prog 27 = true := by kernel_rfl
theorem szo28 : szo Try.prog 28 = some 1 := by kernel_rfl
theorem aggo28 : aggo Try.prog 28 = some false := by kernel_rfl
theorem zero28 : zeroL Try.prog 28 = some ([.v (.slice none 0 0)]) := by kernel_rfl
theorem rowo28 : rowo Try.prog 28 = some (false, 0, 12) := by kernel_rfl
theorem slo28 : slo Try.prog 28 = some (43, 12, 24) := by kernel_rfl
theorem slTy28 : slTy Try.prog 28 = true := by kernel_rfl
theorem szo41 : szo Try.prog 41 = some 1 := by kernel_rfl
theorem aggo41 : aggo Try.prog 41 = some false := by kernel_rfl
theorem zero41 : zeroL Try.prog 41 = some ([.v (.int .u16 0)]) := by kernel_rfl
theorem und41 : Try.prog.underlying 41 = some (.int .u16) := by kernel_rfl
theorem szo42 : szo Try.prog 42 = some 12 := by kernel_rfl
theorem aggo42 : aggo Try.prog 42 = some true := by kernel_rfl
theorem zero42 : zeroL Try.prog 42 = some (List.replicate 12 (.v (.int .u16 0))) := by kernel_rfl
theorem rowo42 : rowo Try.prog 42 = some (true, 12, 1) := by kernel_rfl
theorem etyp42 : etyp Try.prog 42 = some (12, 41, 1) := by kernel_rfl
theorem bld42 : bld Try.prog 42 = some (.ar 1) := by kernel_rfl
theorem eqo42 : eqo Try.prog 42 = some (List.replicate 12 (.i .u16)) := by kernel_rfl
theorem szo43 : szo Try.prog 43 = some 12 := by kernel_rfl
theorem aggo43 : aggo Try.prog 43 = some true := by kernel_rfl
theorem zero43 : zeroL Try.prog 43 = some (List.replicate 12 (.v (.int .u16 0))) := by kernel_rfl
theorem rowo43 : rowo Try.prog 43 = some (true, 12, 1) := by kernel_rfl
theorem etyp43 : etyp Try.prog 43 = some (12, 41, 1) := by kernel_rfl
theorem bld43 : bld Try.prog 43 = some (.ar 1) := by kernel_rfl
theorem eqo43 : eqo Try.prog 43 = some (List.replicate 12 (.i .u16)) := by kernel_rfl
theorem szo46 : szo Try.prog 46 = some 1 := by kernel_rfl
theorem aggo46 : aggo Try.prog 46 = some false := by kernel_rfl
theorem zero46 : zeroL Try.prog 46 = some ([.v (.pointer none)]) := by kernel_rfl
theorem szo61 : szo Try.prog 61 = some 1 := by kernel_rfl
theorem aggo61 : aggo Try.prog 61 = some false := by kernel_rfl
theorem zero61 : zeroL Try.prog 61 = some ([.v (.slice none 0 0)]) := by kernel_rfl
theorem rowo61 : rowo Try.prog 61 = some (false, 0, 1) := by kernel_rfl
theorem slo61 : slo Try.prog 61 = some (41, 1, 2) := by kernel_rfl
theorem slTy61 : slTy Try.prog 61 = true := by kernel_rfl
theorem szo66 : szo Try.prog 66 = some 1 := by kernel_rfl
theorem aggo66 : aggo Try.prog 66 = some false := by kernel_rfl
theorem zero66 : zeroL Try.prog 66 = some ([.v (.int .u64 0)]) := by kernel_rfl
theorem und66 : Try.prog.underlying 66 = some (.int .u64) := by kernel_rfl
theorem szo69 : szo Try.prog 69 = some 1 := by kernel_rfl
theorem aggo69 : aggo Try.prog 69 = some false := by kernel_rfl
theorem zero69 : zeroL Try.prog 69 = some ([.v (.int .i64 0)]) := by kernel_rfl
theorem und69 : Try.prog.underlying 69 = some (.int .i64) := by kernel_rfl
theorem szo78 : szo Try.prog 78 = some 1 := by kernel_rfl
theorem aggo78 : aggo Try.prog 78 = some false := by kernel_rfl
theorem zero78 : zeroL Try.prog 78 = some ([.v (.int .u32 0)]) := by kernel_rfl
theorem und78 : Try.prog.underlying 78 = some (.int .u32) := by kernel_rfl
theorem szo80 : szo Try.prog 80 = some 1 := by kernel_rfl
theorem aggo80 : aggo Try.prog 80 = some false := by kernel_rfl
theorem zero80 : zeroL Try.prog 80 = some ([.v (.int .u64 0)]) := by kernel_rfl
theorem und80 : Try.prog.underlying 80 = some (.int .u64) := by kernel_rfl
theorem szo81 : szo Try.prog 81 = some 1 := by kernel_rfl
theorem aggo81 : aggo Try.prog 81 = some false := by kernel_rfl
theorem zero81 : zeroL Try.prog 81 = some ([.v (.int .u64 0)]) := by kernel_rfl
theorem und81 : Try.prog.underlying 81 = some (.int .u64) := by kernel_rfl
theorem szo85 : szo Try.prog 85 = some 1 := by kernel_rfl
theorem aggo85 : aggo Try.prog 85 = some false := by kernel_rfl
theorem zero85 : zeroL Try.prog 85 = some ([.v (.pointer none)]) := by kernel_rfl
theorem szo87 : szo Try.prog 87 = some 1 := by kernel_rfl
theorem aggo87 : aggo Try.prog 87 = some false := by kernel_rfl
theorem zero87 : zeroL Try.prog 87 = some ([.v (.pointer none)]) := by kernel_rfl
theorem szo91 : szo Try.prog 91 = some 4 := by kernel_rfl
theorem aggo91 : aggo Try.prog 91 = some true := by kernel_rfl
theorem zero91 : zeroL Try.prog 91 = some ([.v (.pointer none), .v (.pointer none), .v (.pointer none), .v (.string ByteArray.empty)]) := by kernel_rfl
theorem bld91 : bld Try.prog 91 = some (.st [(0, 1), (1, 1), (2, 1), (3, 1)]) := by kernel_rfl
theorem foff91_0 : foff Try.prog 91 0 = some 0 := by kernel_rfl
theorem ftyp91_0 : ftyp Try.prog 91 0 = some (17, 0) := by kernel_rfl
theorem foff91_1 : foff Try.prog 91 1 = some 1 := by kernel_rfl
theorem ftyp91_1 : ftyp Try.prog 91 1 = some (17, 1) := by kernel_rfl
theorem foff91_2 : foff Try.prog 91 2 = some 2 := by kernel_rfl
theorem ftyp91_2 : ftyp Try.prog 91 2 = some (17, 2) := by kernel_rfl
theorem foff91_3 : foff Try.prog 91 3 = some 3 := by kernel_rfl
theorem ftyp91_3 : ftyp Try.prog 91 3 = some (9, 3) := by kernel_rfl
theorem szo92 : szo Try.prog 92 = some 4 := by kernel_rfl
theorem aggo92 : aggo Try.prog 92 = some true := by kernel_rfl
theorem zero92 : zeroL Try.prog 92 = some ([.v (.pointer none), .v (.pointer none), .v (.pointer none), .v (.string ByteArray.empty)]) := by kernel_rfl
theorem bld92 : bld Try.prog 92 = some (.st [(0, 1), (1, 1), (2, 1), (3, 1)]) := by kernel_rfl
theorem foff92_0 : foff Try.prog 92 0 = some 0 := by kernel_rfl
theorem ftyp92_0 : ftyp Try.prog 92 0 = some (17, 0) := by kernel_rfl
theorem foff92_1 : foff Try.prog 92 1 = some 1 := by kernel_rfl
theorem ftyp92_1 : ftyp Try.prog 92 1 = some (17, 1) := by kernel_rfl
theorem foff92_2 : foff Try.prog 92 2 = some 2 := by kernel_rfl
theorem ftyp92_2 : ftyp Try.prog 92 2 = some (17, 2) := by kernel_rfl
theorem foff92_3 : foff Try.prog 92 3 = some 3 := by kernel_rfl
theorem ftyp92_3 : ftyp Try.prog 92 3 = some (9, 3) := by kernel_rfl
theorem szo93 : szo Try.prog 93 = some 0 := by kernel_rfl
theorem aggo93 : aggo Try.prog 93 = some true := by kernel_rfl
theorem zero93 : zeroL Try.prog 93 = some ([]) := by kernel_rfl
theorem rowo93 : rowo Try.prog 93 = some (true, 0, 1) := by kernel_rfl
theorem etyp93 : etyp Try.prog 93 = some (0, 16, 1) := by kernel_rfl
theorem bld93 : bld Try.prog 93 = some (.ar 1) := by kernel_rfl
theorem szo94 : szo Try.prog 94 = some 0 := by kernel_rfl
theorem aggo94 : aggo Try.prog 94 = some true := by kernel_rfl
theorem zero94 : zeroL Try.prog 94 = some ([]) := by kernel_rfl
theorem bld94 : bld Try.prog 94 = some (.st [(0, 0)]) := by kernel_rfl
theorem ftyp94_0 : ftyp Try.prog 94 0 = some (93, 0) := by kernel_rfl
theorem szo95 : szo Try.prog 95 = some 0 := by kernel_rfl
theorem aggo95 : aggo Try.prog 95 = some true := by kernel_rfl
theorem zero95 : zeroL Try.prog 95 = some ([]) := by kernel_rfl
theorem bld95 : bld Try.prog 95 = some (.st [(0, 0)]) := by kernel_rfl
theorem ftyp95_0 : ftyp Try.prog 95 0 = some (93, 0) := by kernel_rfl
theorem szo97 : szo Try.prog 97 = some 1 := by kernel_rfl
theorem aggo97 : aggo Try.prog 97 = some false := by kernel_rfl
theorem zero97 : zeroL Try.prog 97 = some ([.v (.int .u8 0)]) := by kernel_rfl
theorem und97 : Try.prog.underlying 97 = some (.int .u8) := by kernel_rfl
theorem szo98 : szo Try.prog 98 = some 1 := by kernel_rfl
theorem aggo98 : aggo Try.prog 98 = some false := by kernel_rfl
theorem zero98 : zeroL Try.prog 98 = some ([.v (.int .u8 0)]) := by kernel_rfl
theorem und98 : Try.prog.underlying 98 = some (.int .u8) := by kernel_rfl
theorem szo100 : szo Try.prog 100 = some 1 := by kernel_rfl
theorem aggo100 : aggo Try.prog 100 = some false := by kernel_rfl
theorem zero100 : zeroL Try.prog 100 = some ([.v (.pointer none)]) := by kernel_rfl
theorem szo101 : szo Try.prog 101 = some 1 := by kernel_rfl
theorem aggo101 : aggo Try.prog 101 = some false := by kernel_rfl
theorem zero101 : zeroL Try.prog 101 = some ([.v (.int .i32 0)]) := by kernel_rfl
theorem und101 : Try.prog.underlying 101 = some (.int .i32) := by kernel_rfl
theorem szo102 : szo Try.prog 102 = some 1 := by kernel_rfl
theorem aggo102 : aggo Try.prog 102 = some false := by kernel_rfl
theorem zero102 : zeroL Try.prog 102 = some ([.v (.int .i32 0)]) := by kernel_rfl
theorem und102 : Try.prog.underlying 102 = some (.int .i32) := by kernel_rfl
theorem szo103 : szo Try.prog 103 = some 11 := by kernel_rfl
theorem aggo103 : aggo Try.prog 103 = some true := by kernel_rfl
theorem zero103 : zeroL Try.prog 103 = some ([.v (.int .u64 0), .v (.int .u64 0), .v (.int .u32 0), .v (.int .u8 0), .v (.int .u8 0), .v (.int .u8 0), .v (.int .u8 0), .v .nilFunc, .v (.pointer none), .v (.int .i32 0), .v (.int .i32 0)]) := by kernel_rfl
theorem foff103_0 : foff Try.prog 103 0 = some 0 := by kernel_rfl
theorem ftyp103_0 : ftyp Try.prog 103 0 = some (12, 0) := by kernel_rfl
theorem foff103_1 : foff Try.prog 103 1 = some 1 := by kernel_rfl
theorem ftyp103_1 : ftyp Try.prog 103 1 = some (12, 1) := by kernel_rfl
theorem foff103_2 : foff Try.prog 103 2 = some 2 := by kernel_rfl
theorem ftyp103_2 : ftyp Try.prog 103 2 = some (78, 2) := by kernel_rfl
theorem foff103_3 : foff Try.prog 103 3 = some 3 := by kernel_rfl
theorem ftyp103_3 : ftyp Try.prog 103 3 = some (97, 3) := by kernel_rfl
theorem foff103_4 : foff Try.prog 103 4 = some 4 := by kernel_rfl
theorem ftyp103_4 : ftyp Try.prog 103 4 = some (5, 4) := by kernel_rfl
theorem foff103_5 : foff Try.prog 103 5 = some 5 := by kernel_rfl
theorem ftyp103_5 : ftyp Try.prog 103 5 = some (5, 5) := by kernel_rfl
theorem foff103_6 : foff Try.prog 103 6 = some 6 := by kernel_rfl
theorem ftyp103_6 : ftyp Try.prog 103 6 = some (98, 6) := by kernel_rfl
theorem foff103_8 : foff Try.prog 103 8 = some 8 := by kernel_rfl
theorem ftyp103_8 : ftyp Try.prog 103 8 = some (100, 8) := by kernel_rfl
theorem foff103_9 : foff Try.prog 103 9 = some 9 := by kernel_rfl
theorem ftyp103_9 : ftyp Try.prog 103 9 = some (101, 9) := by kernel_rfl
theorem foff103_10 : foff Try.prog 103 10 = some 10 := by kernel_rfl
theorem ftyp103_10 : ftyp Try.prog 103 10 = some (102, 10) := by kernel_rfl
theorem szo104 : szo Try.prog 104 = some 11 := by kernel_rfl
theorem aggo104 : aggo Try.prog 104 = some true := by kernel_rfl
theorem zero104 : zeroL Try.prog 104 = some ([.v (.int .u64 0), .v (.int .u64 0), .v (.int .u32 0), .v (.int .u8 0), .v (.int .u8 0), .v (.int .u8 0), .v (.int .u8 0), .v .nilFunc, .v (.pointer none), .v (.int .i32 0), .v (.int .i32 0)]) := by kernel_rfl
theorem foff104_0 : foff Try.prog 104 0 = some 0 := by kernel_rfl
theorem ftyp104_0 : ftyp Try.prog 104 0 = some (12, 0) := by kernel_rfl
theorem foff104_1 : foff Try.prog 104 1 = some 1 := by kernel_rfl
theorem ftyp104_1 : ftyp Try.prog 104 1 = some (12, 1) := by kernel_rfl
theorem foff104_2 : foff Try.prog 104 2 = some 2 := by kernel_rfl
theorem ftyp104_2 : ftyp Try.prog 104 2 = some (78, 2) := by kernel_rfl
theorem foff104_3 : foff Try.prog 104 3 = some 3 := by kernel_rfl
theorem ftyp104_3 : ftyp Try.prog 104 3 = some (97, 3) := by kernel_rfl
theorem foff104_4 : foff Try.prog 104 4 = some 4 := by kernel_rfl
theorem ftyp104_4 : ftyp Try.prog 104 4 = some (5, 4) := by kernel_rfl
theorem foff104_5 : foff Try.prog 104 5 = some 5 := by kernel_rfl
theorem ftyp104_5 : ftyp Try.prog 104 5 = some (5, 5) := by kernel_rfl
theorem foff104_6 : foff Try.prog 104 6 = some 6 := by kernel_rfl
theorem ftyp104_6 : ftyp Try.prog 104 6 = some (98, 6) := by kernel_rfl
theorem foff104_8 : foff Try.prog 104 8 = some 8 := by kernel_rfl
theorem ftyp104_8 : ftyp Try.prog 104 8 = some (100, 8) := by kernel_rfl
theorem foff104_9 : foff Try.prog 104 9 = some 9 := by kernel_rfl
theorem ftyp104_9 : ftyp Try.prog 104 9 = some (101, 9) := by kernel_rfl
theorem foff104_10 : foff Try.prog 104 10 = some 10 := by kernel_rfl
theorem ftyp104_10 : ftyp Try.prog 104 10 = some (102, 10) := by kernel_rfl
attribute [go_sem] szo2 aggo2 zero2 und2 szo3 aggo3 zero3 und3 szo4 aggo4 zero4 und4 szo5 aggo5 zero5 und5 szo6 aggo6 zero6 und6 szo7 aggo7 zero7 bld7 foff7_0 ftyp7_0 foff7_1 ftyp7_1 foff7_2 ftyp7_2 foff7_3 ftyp7_3 eqo7 szo8 aggo8 zero8 bld8 foff8_0 ftyp8_0 foff8_1 ftyp8_1 foff8_2 ftyp8_2 foff8_3 ftyp8_3 eqo8 szo9 aggo9 zero9 und9 szo10 aggo10 zero10 und10 szo11 aggo11 zero11 und11 szo12 aggo12 zero12 und12 szo13 aggo13 zero13 bld13 foff13_0 ftyp13_0 foff13_1 ftyp13_1 szo14 aggo14 zero14 bld14 foff14_0 ftyp14_0 foff14_1 ftyp14_1 szo15 aggo15 zero15 szo16 aggo16 zero16 szo17 aggo17 zero17 szo18 aggo18 zero18 bld18 foff18_0 ftyp18_0 szo19 aggo19 zero19 bld19 foff19_0 ftyp19_0 szo21 aggo21 zero21 und21 szo22 aggo22 zero22 rowo22 slo22 slTy22 szo23 aggo23 zero23 rowo23 slo23 slTy23 szo27 aggo27 zero27 rowo27 slo27 slTy27 szo28 aggo28 zero28 rowo28 slo28 slTy28 szo41 aggo41 zero41 und41 szo42 aggo42 zero42 rowo42 etyp42 bld42 eqo42 szo43 aggo43 zero43 rowo43 etyp43 bld43 eqo43 szo46 aggo46 zero46 szo61 aggo61 zero61 rowo61 slo61 slTy61 szo66 aggo66 zero66 und66 szo69 aggo69 zero69 und69 szo78 aggo78 zero78 und78 szo80 aggo80 zero80 und80 szo81 aggo81 zero81 und81 szo85 aggo85 zero85 szo87 aggo87 zero87 szo91 aggo91 zero91 bld91 foff91_0 ftyp91_0 foff91_1 ftyp91_1 foff91_2 ftyp91_2 foff91_3 ftyp91_3 szo92 aggo92 zero92 bld92 foff92_0 ftyp92_0 foff92_1 ftyp92_1 foff92_2 ftyp92_2 foff92_3 ftyp92_3 szo93 aggo93 zero93 rowo93 etyp93 bld93 szo94 aggo94 zero94 bld94 ftyp94_0 szo95 aggo95 zero95 bld95 ftyp95_0 szo97 aggo97 zero97 und97 szo98 aggo98 zero98 und98 szo100 aggo100 zero100 szo101 aggo101 zero101 und101 szo102 aggo102 zero102 und102 szo103 aggo103 zero103 foff103_0 ftyp103_0 foff103_1 ftyp103_1 foff103_2 ftyp103_2 foff103_3 ftyp103_3 foff103_4 ftyp103_4 foff103_5 ftyp103_5 foff103_6 ftyp103_6 foff103_8 ftyp103_8 foff103_9 ftyp103_9 foff103_10 ftyp103_10 szo104 aggo104 zero104 foff104_0 ftyp104_0 foff104_1 ftyp104_1 foff104_2 ftyp104_2 foff104_3 ftyp104_3 foff104_4 ftyp104_4 foff104_5 ftyp104_5 foff104_6 ftyp104_6 foff104_8 ftyp104_8 foff104_9 ftyp104_9 foff104_10 ftyp104_10
theorem mixed : Try.prog.follows .mixedOrders = true := by kernel_rfl
end Go.Proofs.Ytaekjojblkhfdaa

