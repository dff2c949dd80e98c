/- What the types of the translated program are, as the walk asks for it. -/
import Derived.KernelRfl
import Derived.Test.YtpjimhkblldhaaaProg
import Derived.Test.YtpjimhkblldhaaaLC
set_option linter.unusedVariables false
set_option linter.unusedSimpArgs false
set_option maxRecDepth 8000
set_option maxHeartbeats 4000000
namespace Go.Proofs.Ytpjimhkblldhaaa
open Go Go.Sx
theorem szo2 : szo Try.prog 2 = some 1 := by kernel_rfl
theorem aggo2 : aggo Try.prog 2 = some false := by kernel_rfl
theorem zero2 : zeroL Try.prog 2 = some ([.v (.int .i64 0)]) := by kernel_rfl
theorem und2 : Try.prog.underlying 2 = some (.int .i64) := by kernel_rfl
theorem szo3 : szo Try.prog 3 = some 1 := by kernel_rfl
theorem aggo3 : aggo Try.prog 3 = some false := by kernel_rfl
theorem zero3 : zeroL Try.prog 3 = some ([.v (.int .i64 0)]) := by kernel_rfl
theorem und3 : Try.prog.underlying 3 = some (.int .i64) := by kernel_rfl
theorem szo4 : szo Try.prog 4 = some 1 := by kernel_rfl
theorem aggo4 : aggo Try.prog 4 = some false := by kernel_rfl
theorem zero4 : zeroL Try.prog 4 = some ([.v (.bool false)]) := by kernel_rfl
theorem und4 : Try.prog.underlying 4 = some .bool := by kernel_rfl
theorem szo5 : szo Try.prog 5 = some 1 := by kernel_rfl
theorem aggo5 : aggo Try.prog 5 = some false := by kernel_rfl
theorem zero5 : zeroL Try.prog 5 = some ([.v (.int .u8 0)]) := by kernel_rfl
theorem und5 : Try.prog.underlying 5 = some (.int .u8) := by kernel_rfl
theorem szo6 : szo Try.prog 6 = some 1 := by kernel_rfl
theorem aggo6 : aggo Try.prog 6 = some false := by kernel_rfl
theorem zero6 : zeroL Try.prog 6 = some ([.v (.int .u8 0)]) := by kernel_rfl
theorem und6 : Try.prog.underlying 6 = some (.int .u8) := by kernel_rfl
theorem szo7 : szo Try.prog 7 = some 4 := by kernel_rfl
theorem aggo7 : aggo Try.prog 7 = some true := by kernel_rfl
theorem zero7 : zeroL Try.prog 7 = some ([.v (.int .i64 0), .v (.int .i64 0), .v (.bool false), .v (.int .u8 0)]) := by kernel_rfl
theorem bld7 : bld Try.prog 7 = some (.st [(0, 1), (1, 1), (2, 1), (3, 1)]) := by kernel_rfl
theorem foff7_0 : foff Try.prog 7 0 = some 0 := by kernel_rfl
theorem ftyp7_0 : ftyp Try.prog 7 0 = some (2, 0) := by kernel_rfl
theorem foff7_1 : foff Try.prog 7 1 = some 1 := by kernel_rfl
theorem ftyp7_1 : ftyp Try.prog 7 1 = some (3, 1) := by kernel_rfl
theorem foff7_2 : foff Try.prog 7 2 = some 2 := by kernel_rfl
theorem ftyp7_2 : ftyp Try.prog 7 2 = some (4, 2) := by kernel_rfl
theorem foff7_3 : foff Try.prog 7 3 = some 3 := by kernel_rfl
theorem ftyp7_3 : ftyp Try.prog 7 3 = some (6, 3) := by kernel_rfl
theorem eqo7 : eqo Try.prog 7 = some [.i .i64, .i .i64, .b, .i .u8] := by kernel_rfl
theorem szo8 : szo Try.prog 8 = some 4 := by kernel_rfl
theorem aggo8 : aggo Try.prog 8 = some true := by kernel_rfl
theorem zero8 : zeroL Try.prog 8 = some ([.v (.int .i64 0), .v (.int .i64 0), .v (.bool false), .v (.int .u8 0)]) := by kernel_rfl
theorem bld8 : bld Try.prog 8 = some (.st [(0, 1), (1, 1), (2, 1), (3, 1)]) := by kernel_rfl
theorem foff8_0 : foff Try.prog 8 0 = some 0 := by kernel_rfl
theorem ftyp8_0 : ftyp Try.prog 8 0 = some (2, 0) := by kernel_rfl
theorem foff8_1 : foff Try.prog 8 1 = some 1 := by kernel_rfl
theorem ftyp8_1 : ftyp Try.prog 8 1 = some (3, 1) := by kernel_rfl
theorem foff8_2 : foff Try.prog 8 2 = some 2 := by kernel_rfl
theorem ftyp8_2 : ftyp Try.prog 8 2 = some (4, 2) := by kernel_rfl
theorem foff8_3 : foff Try.prog 8 3 = some 3 := by kernel_rfl
theorem ftyp8_3 : ftyp Try.prog 8 3 = some (6, 3) := by kernel_rfl
theorem eqo8 : eqo Try.prog 8 = some [.i .i64, .i .i64, .b, .i .u8] := by kernel_rfl
theorem szo9 : szo Try.prog 9 = some 1 := by kernel_rfl
theorem aggo9 : aggo Try.prog 9 = some false := by kernel_rfl
theorem zero9 : zeroL Try.prog 9 = some ([.v (.string ByteArray.empty)]) := by kernel_rfl
theorem und9 : Try.prog.underlying 9 = some .string := by kernel_rfl
theorem szo10 : szo Try.prog 10 = some 1 := by kernel_rfl
theorem aggo10 : aggo Try.prog 10 = some false := by kernel_rfl
theorem zero10 : zeroL Try.prog 10 = some ([.v (.string ByteArray.empty)]) := by kernel_rfl
theorem und10 : Try.prog.underlying 10 = some .string := by kernel_rfl
theorem szo11 : szo Try.prog 11 = some 1 := by kernel_rfl
theorem aggo11 : aggo Try.prog 11 = some false := by kernel_rfl
theorem zero11 : zeroL Try.prog 11 = some ([.v (.string ByteArray.empty)]) := by kernel_rfl
theorem und11 : Try.prog.underlying 11 = some .string := by kernel_rfl
theorem szo12 : szo Try.prog 12 = some 1 := by kernel_rfl
theorem aggo12 : aggo Try.prog 12 = some false := by kernel_rfl
theorem zero12 : zeroL Try.prog 12 = some ([.v (.int .u64 0)]) := by kernel_rfl
theorem und12 : Try.prog.underlying 12 = some (.int .u64) := by kernel_rfl
theorem szo13 : szo Try.prog 13 = some 2 := by kernel_rfl
theorem aggo13 : aggo Try.prog 13 = some true := by kernel_rfl
theorem zero13 : zeroL Try.prog 13 = some ([.v (.string ByteArray.empty), .v (.int .u64 0)]) := by kernel_rfl
theorem bld13 : bld Try.prog 13 = some (.st [(0, 1), (1, 1)]) := by kernel_rfl
theorem foff13_0 : foff Try.prog 13 0 = some 0 := by kernel_rfl
theorem ftyp13_0 : ftyp Try.prog 13 0 = some (9, 0) := by kernel_rfl
theorem foff13_1 : foff Try.prog 13 1 = some 1 := by kernel_rfl
theorem ftyp13_1 : ftyp Try.prog 13 1 = some (12, 1) := by kernel_rfl
theorem szo14 : szo Try.prog 14 = some 2 := by kernel_rfl
theorem aggo14 : aggo Try.prog 14 = some true := by kernel_rfl
theorem zero14 : zeroL Try.prog 14 = some ([.v (.string ByteArray.empty), .v (.int .u64 0)]) := by kernel_rfl
theorem bld14 : bld Try.prog 14 = some (.st [(0, 1), (1, 1)]) := by kernel_rfl
theorem foff14_0 : foff Try.prog 14 0 = some 0 := by kernel_rfl
theorem ftyp14_0 : ftyp Try.prog 14 0 = some (9, 0) := by kernel_rfl
theorem foff14_1 : foff Try.prog 14 1 = some 1 := by kernel_rfl
theorem ftyp14_1 : ftyp Try.prog 14 1 = some (12, 1) := by kernel_rfl
theorem szo15 : szo Try.prog 15 = some 1 := by kernel_rfl
theorem aggo15 : aggo Try.prog 15 = some false := by kernel_rfl
theorem zero15 : zeroL Try.prog 15 = some ([.v (.pointer none)]) := by kernel_rfl
theorem szo16 : szo Try.prog 16 = some 1 := by kernel_rfl
theorem aggo16 : aggo Try.prog 16 = some false := by kernel_rfl
theorem zero16 : zeroL Try.prog 16 = some ([.v (.pointer none)]) := by kernel_rfl
theorem szo17 : szo Try.prog 17 = some 1 := by kernel_rfl
theorem aggo17 : aggo Try.prog 17 = some false := by kernel_rfl
theorem zero17 : zeroL Try.prog 17 = some ([.v (.pointer none)]) := by kernel_rfl
theorem szo18 : szo Try.prog 18 = some 1 := by kernel_rfl
theorem aggo18 : aggo Try.prog 18 = some true := by kernel_rfl
theorem zero18 : zeroL Try.prog 18 = some ([.v (.pointer none)]) := by kernel_rfl
theorem bld18 : bld Try.prog 18 = some (.st [(0, 1)]) := by kernel_rfl
theorem foff18_0 : foff Try.prog 18 0 = some 0 := by kernel_rfl
theorem ftyp18_0 : ftyp Try.prog 18 0 = some (17, 0) := by kernel_rfl
theorem szo19 : szo Try.prog 19 = some 1 := by kernel_rfl
theorem aggo19 : aggo Try.prog 19 = some true := by kernel_rfl
theorem zero19 : zeroL Try.prog 19 = some ([.v (.pointer none)]) := by kernel_rfl
theorem bld19 : bld Try.prog 19 = some (.st [(0, 1)]) := by kernel_rfl
theorem foff19_0 : foff Try.prog 19 0 = some 0 := by kernel_rfl
theorem ftyp19_0 : ftyp Try.prog 19 0 = some (17, 0) := by kernel_rfl
theorem szo21 : szo Try.prog 21 = some 1 := by kernel_rfl
theorem aggo21 : aggo Try.prog 21 = some false := by kernel_rfl
theorem zero21 : zeroL Try.prog 21 = some ([.v (.int .i32 0)]) := by kernel_rfl
theorem und21 : Try.prog.underlying 21 = some (.int .i32) := by kernel_rfl
theorem szo22 : szo Try.prog 22 = some 1 := by kernel_rfl
theorem aggo22 : aggo Try.prog 22 = some false := by kernel_rfl
theorem zero22 : zeroL Try.prog 22 = some ([.v (.slice none 0 0)]) := by kernel_rfl
theorem rowo22 : rowo Try.prog 22 = some (false, 0, 3) := by kernel_rfl
theorem slo22 : slo Try.prog 22 = some (59, 3, 4) := by kernel_rfl
theorem slTy22 : slTy Try.prog 22 = true := by kernel_rfl
theorem szo24 : szo Try.prog 24 = some 1 := by kernel_rfl
theorem aggo24 : aggo Try.prog 24 = some false := by kernel_rfl
theorem zero24 : zeroL Try.prog 24 = some ([.v (.slice none 0 0)]) := by kernel_rfl
theorem rowo24 : rowo Try.prog 24 = some (false, 0, 3) := by kernel_rfl
theorem slo24 : slo Try.prog 24 = some (55, 3, 4) := by kernel_rfl
theorem slTy24 : slTy Try.prog 24 = true := by kernel_rfl
theorem szo25 : szo Try.prog 25 = some 1 := by kernel_rfl
theorem aggo25 : aggo Try.prog 25 = some false := by kernel_rfl
theorem zero25 : zeroL Try.prog 25 = some ([.v (.slice none 0 0)]) := by kernel_rfl
theorem rowo25 : rowo Try.prog 25 = some (false, 0, 3) := by kernel_rfl
theorem slo25 : slo Try.prog 25 = some (55, 3, 4) := by kernel_rfl
theorem slTy25 : slTy Try.prog 25 = true := by kernel_rfl
theorem szo39 : szo Try.prog 39 = some 1 := by kernel_rfl
theorem aggo39 : aggo Try.prog 39 = some false := by kernel_rfl
theorem zero39 : zeroL Try.prog 39 = some ([.v (.slice none 0 0)]) := by kernel_rfl
theorem rowo39 : rowo Try.prog 39 = some (false, 0, 1) := by kernel_rfl
theorem slo39 : slo Try.prog 39 = some (2, 1, 8) := by kernel_rfl
theorem slTy39 : slTy Try.prog 39 = true := by kernel_rfl
theorem szo49 : szo Try.prog 49 = some 1 := by kernel_rfl
theorem aggo49 : aggo Try.prog 49 = some false := by kernel_rfl
theorem zero49 : zeroL Try.prog 49 = some ([.v (.slice none 0 0)]) := by kernel_rfl
theorem rowo49 : rowo Try.prog 49 = some (false, 0, 3) := by kernel_rfl
theorem slo49 : slo Try.prog 49 = some (50, 3, 24) := by kernel_rfl
theorem slTy49 : slTy Try.prog 49 = true := by kernel_rfl
theorem szo50 : szo Try.prog 50 = some 3 := by kernel_rfl
theorem aggo50 : aggo Try.prog 50 = some true := by kernel_rfl
theorem zero50 : zeroL Try.prog 50 = some ([.v (.int .i64 0), .v (.int .i64 0), .v (.int .i64 0)]) := by kernel_rfl
theorem rowo50 : rowo Try.prog 50 = some (true, 3, 1) := by kernel_rfl
theorem etyp50 : etyp Try.prog 50 = some (3, 2, 1) := by kernel_rfl
theorem bld50 : bld Try.prog 50 = some (.ar 1) := by kernel_rfl
theorem eqo50 : eqo Try.prog 50 = some [.i .i64, .i .i64, .i .i64] := by kernel_rfl
theorem szo52 : szo Try.prog 52 = some 1 := by kernel_rfl
theorem aggo52 : aggo Try.prog 52 = some false := by kernel_rfl
theorem zero52 : zeroL Try.prog 52 = some ([.v (.int .i16 0)]) := by kernel_rfl
theorem und52 : Try.prog.underlying 52 = some (.int .i16) := by kernel_rfl
theorem szo53 : szo Try.prog 53 = some 1 := by kernel_rfl
theorem aggo53 : aggo Try.prog 53 = some false := by kernel_rfl
theorem zero53 : zeroL Try.prog 53 = some ([.v (.int .i8 0)]) := by kernel_rfl
theorem und53 : Try.prog.underlying 53 = some (.int .i8) := by kernel_rfl
theorem szo54 : szo Try.prog 54 = some 3 := by kernel_rfl
theorem aggo54 : aggo Try.prog 54 = some true := by kernel_rfl
theorem zero54 : zeroL Try.prog 54 = some ([.v (.int .i16 0), .v (.int .i8 0), .v (.int .i8 0)]) := by kernel_rfl
theorem bld54 : bld Try.prog 54 = some (.st [(0, 1), (1, 1), (2, 1)]) := by kernel_rfl
theorem foff54_0 : foff Try.prog 54 0 = some 0 := by kernel_rfl
theorem ftyp54_0 : ftyp Try.prog 54 0 = some (52, 0) := by kernel_rfl
theorem foff54_1 : foff Try.prog 54 1 = some 1 := by kernel_rfl
theorem ftyp54_1 : ftyp Try.prog 54 1 = some (53, 1) := by kernel_rfl
theorem foff54_2 : foff Try.prog 54 2 = some 2 := by kernel_rfl
theorem ftyp54_2 : ftyp Try.prog 54 2 = some (53, 2) := by kernel_rfl
theorem eqo54 : eqo Try.prog 54 = some [.i .i16, .i .i8, .i .i8] := by kernel_rfl
theorem szo55 : szo Try.prog 55 = some 3 := by kernel_rfl
theorem aggo55 : aggo Try.prog 55 = some true := by kernel_rfl
theorem zero55 : zeroL Try.prog 55 = some ([.v (.int .i16 0), .v (.int .i8 0), .v (.int .i8 0)]) := by kernel_rfl
theorem bld55 : bld Try.prog 55 = some (.st [(0, 1), (1, 1), (2, 1)]) := by kernel_rfl
theorem foff55_0 : foff Try.prog 55 0 = some 0 := by kernel_rfl
theorem ftyp55_0 : ftyp Try.prog 55 0 = some (52, 0) := by kernel_rfl
theorem foff55_1 : foff Try.prog 55 1 = some 1 := by kernel_rfl
theorem ftyp55_1 : ftyp Try.prog 55 1 = some (53, 1) := by kernel_rfl
theorem foff55_2 : foff Try.prog 55 2 = some 2 := by kernel_rfl
theorem ftyp55_2 : ftyp Try.prog 55 2 = some (53, 2) := by kernel_rfl
theorem eqo55 : eqo Try.prog 55 = some [.i .i16, .i .i8, .i .i8] := by kernel_rfl
theorem szo59 : szo Try.prog 59 = some 3 := by kernel_rfl
theorem aggo59 : aggo Try.prog 59 = some true := by kernel_rfl
theorem zero59 : zeroL Try.prog 59 = some ([.v (.int .i16 0), .v (.int .i8 0), .v (.int .i8 0)]) := by kernel_rfl
theorem bld59 : bld Try.prog 59 = some (.st [(0, 1), (1, 1), (2, 1)]) := by kernel_rfl
theorem foff59_0 : foff Try.prog 59 0 = some 0 := by kernel_rfl
theorem ftyp59_0 : ftyp Try.prog 59 0 = some (52, 0) := by kernel_rfl
theorem foff59_1 : foff Try.prog 59 1 = some 1 := by kernel_rfl
theorem ftyp59_1 : ftyp Try.prog 59 1 = some (53, 1) := by kernel_rfl
theorem foff59_2 : foff Try.prog 59 2 = some 2 := by kernel_rfl
theorem ftyp59_2 : ftyp Try.prog 59 2 = some (53, 2) := by kernel_rfl
theorem eqo59 : eqo Try.prog 59 = some [.i .i16, .i .i8, .i .i8] := by kernel_rfl
theorem szo78 : szo Try.prog 78 = some 1 := by kernel_rfl
theorem aggo78 : aggo Try.prog 78 = some false := by kernel_rfl
theorem zero78 : zeroL Try.prog 78 = some ([.v (.slice none 0 0)]) := by kernel_rfl
theorem rowo78 : rowo Try.prog 78 = some (false, 0, 1) := by kernel_rfl
theorem slo78 : slo Try.prog 78 = some (25, 1, 24) := by kernel_rfl
theorem slTy78 : slTy Try.prog 78 = true := by kernel_rfl
theorem szo84 : szo Try.prog 84 = some 4 := by kernel_rfl
theorem aggo84 : aggo Try.prog 84 = some true := by kernel_rfl
theorem zero84 : zeroL Try.prog 84 = some ([.v (.pointer none), .v (.pointer none), .v (.pointer none), .v (.string ByteArray.empty)]) := by kernel_rfl
theorem bld84 : bld Try.prog 84 = some (.st [(0, 1), (1, 1), (2, 1), (3, 1)]) := by kernel_rfl
theorem foff84_0 : foff Try.prog 84 0 = some 0 := by kernel_rfl
theorem ftyp84_0 : ftyp Try.prog 84 0 = some (17, 0) := by kernel_rfl
theorem foff84_1 : foff Try.prog 84 1 = some 1 := by kernel_rfl
theorem ftyp84_1 : ftyp Try.prog 84 1 = some (17, 1) := by kernel_rfl
theorem foff84_2 : foff Try.prog 84 2 = some 2 := by kernel_rfl
theorem ftyp84_2 : ftyp Try.prog 84 2 = some (17, 2) := by kernel_rfl
theorem foff84_3 : foff Try.prog 84 3 = some 3 := by kernel_rfl
theorem ftyp84_3 : ftyp Try.prog 84 3 = some (9, 3) := by kernel_rfl
theorem szo85 : szo Try.prog 85 = some 4 := by kernel_rfl
theorem aggo85 : aggo Try.prog 85 = some true := by kernel_rfl
theorem zero85 : zeroL Try.prog 85 = some ([.v (.pointer none), .v (.pointer none), .v (.pointer none), .v (.string ByteArray.empty)]) := by kernel_rfl
theorem bld85 : bld Try.prog 85 = some (.st [(0, 1), (1, 1), (2, 1), (3, 1)]) := by kernel_rfl
theorem foff85_0 : foff Try.prog 85 0 = some 0 := by kernel_rfl
theorem ftyp85_0 : ftyp Try.prog 85 0 = some (17, 0) := by kernel_rfl
theorem foff85_1 : foff Try.prog 85 1 = some 1 := by kernel_rfl
theorem ftyp85_1 : ftyp Try.prog 85 1 = some (17, 1) := by kernel_rfl
theorem foff85_2 : foff Try.prog 85 2 = some 2 := by kernel_rfl
theorem ftyp85_2 : ftyp Try.prog 85 2 = some (17, 2) := by kernel_rfl
theorem foff85_3 : foff Try.prog 85 3 = some 3 := by kernel_rfl
theorem ftyp85_3 : ftyp Try.prog 85 3 = some (9, 3) := by kernel_rfl
theorem szo86 : szo Try.prog 86 = some 0 := by kernel_rfl
theorem aggo86 : aggo Try.prog 86 = some true := by kernel_rfl
theorem zero86 : zeroL Try.prog 86 = some ([]) := by kernel_rfl
theorem rowo86 : rowo Try.prog 86 = some (true, 0, 1) := by kernel_rfl
theorem etyp86 : etyp Try.prog 86 = some (0, 16, 1) := by kernel_rfl
theorem bld86 : bld Try.prog 86 = some (.ar 1) := by kernel_rfl
theorem szo87 : szo Try.prog 87 = some 0 := by kernel_rfl
theorem aggo87 : aggo Try.prog 87 = some true := by kernel_rfl
theorem zero87 : zeroL Try.prog 87 = some ([]) := by kernel_rfl
theorem bld87 : bld Try.prog 87 = some (.st [(0, 0)]) := by kernel_rfl
theorem ftyp87_0 : ftyp Try.prog 87 0 = some (86, 0) := by kernel_rfl
theorem szo88 : szo Try.prog 88 = some 0 := by kernel_rfl
theorem aggo88 : aggo Try.prog 88 = some true := by kernel_rfl
theorem zero88 : zeroL Try.prog 88 = some ([]) := by kernel_rfl
theorem bld88 : bld Try.prog 88 = some (.st [(0, 0)]) := by kernel_rfl
theorem ftyp88_0 : ftyp Try.prog 88 0 = some (86, 0) := by kernel_rfl
theorem szo90 : szo Try.prog 90 = some 1 := by kernel_rfl
theorem aggo90 : aggo Try.prog 90 = some false := by kernel_rfl
theorem zero90 : zeroL Try.prog 90 = some ([.v (.int .u32 0)]) := by kernel_rfl
theorem und90 : Try.prog.underlying 90 = some (.int .u32) := by kernel_rfl
theorem szo91 : szo Try.prog 91 = some 1 := by kernel_rfl
theorem aggo91 : aggo Try.prog 91 = some false := by kernel_rfl
theorem zero91 : zeroL Try.prog 91 = some ([.v (.int .u8 0)]) := by kernel_rfl
theorem und91 : Try.prog.underlying 91 = some (.int .u8) := by kernel_rfl
theorem szo92 : szo Try.prog 92 = some 1 := by kernel_rfl
theorem aggo92 : aggo Try.prog 92 = some false := by kernel_rfl
theorem zero92 : zeroL Try.prog 92 = some ([.v (.int .u8 0)]) := by kernel_rfl
theorem und92 : Try.prog.underlying 92 = some (.int .u8) := by kernel_rfl
theorem szo94 : szo Try.prog 94 = some 1 := by kernel_rfl
theorem aggo94 : aggo Try.prog 94 = some false := by kernel_rfl
theorem zero94 : zeroL Try.prog 94 = some ([.v (.pointer none)]) := by kernel_rfl
theorem szo95 : szo Try.prog 95 = some 1 := by kernel_rfl
theorem aggo95 : aggo Try.prog 95 = some false := by kernel_rfl
theorem zero95 : zeroL Try.prog 95 = some ([.v (.int .i32 0)]) := by kernel_rfl
theorem und95 : Try.prog.underlying 95 = some (.int .i32) := by kernel_rfl
theorem szo96 : szo Try.prog 96 = some 1 := by kernel_rfl
theorem aggo96 : aggo Try.prog 96 = some false := by kernel_rfl
theorem zero96 : zeroL Try.prog 96 = some ([.v (.int .i32 0)]) := by kernel_rfl
theorem und96 : Try.prog.underlying 96 = some (.int .i32) := by kernel_rfl
theorem szo97 : szo Try.prog 97 = some 11 := by kernel_rfl
theorem aggo97 : aggo Try.prog 97 = some true := by kernel_rfl
theorem zero97 : zeroL Try.prog 97 = some ([.v (.int .u64 0), .v (.int .u64 0), .v (.int .u32 0), .v (.int .u8 0), .v (.int .u8 0), .v (.int .u8 0), .v (.int .u8 0), .v .nilFunc, .v (.pointer none), .v (.int .i32 0), .v (.int .i32 0)]) := by kernel_rfl
theorem foff97_0 : foff Try.prog 97 0 = some 0 := by kernel_rfl
theorem ftyp97_0 : ftyp Try.prog 97 0 = some (12, 0) := by kernel_rfl
theorem foff97_1 : foff Try.prog 97 1 = some 1 := by kernel_rfl
theorem ftyp97_1 : ftyp Try.prog 97 1 = some (12, 1) := by kernel_rfl
theorem foff97_2 : foff Try.prog 97 2 = some 2 := by kernel_rfl
theorem ftyp97_2 : ftyp Try.prog 97 2 = some (90, 2) := by kernel_rfl
theorem foff97_3 : foff Try.prog 97 3 = some 3 := by kernel_rfl
theorem ftyp97_3 : ftyp Try.prog 97 3 = some (91, 3) := by kernel_rfl
theorem foff97_4 : foff Try.prog 97 4 = some 4 := by kernel_rfl
theorem ftyp97_4 : ftyp Try.prog 97 4 = some (5, 4) := by kernel_rfl
theorem foff97_5 : foff Try.prog 97 5 = some 5 := by kernel_rfl
theorem ftyp97_5 : ftyp Try.prog 97 5 = some (5, 5) := by kernel_rfl
theorem foff97_6 : foff Try.prog 97 6 = some 6 := by kernel_rfl
theorem ftyp97_6 : ftyp Try.prog 97 6 = some (92, 6) := by kernel_rfl
theorem foff97_8 : foff Try.prog 97 8 = some 8 := by kernel_rfl
theorem ftyp97_8 : ftyp Try.prog 97 8 = some (94, 8) := by kernel_rfl
theorem foff97_9 : foff Try.prog 97 9 = some 9 := by kernel_rfl
theorem ftyp97_9 : ftyp Try.prog 97 9 = some (95, 9) := by kernel_rfl
theorem foff97_10 : foff Try.prog 97 10 = some 10 := by kernel_rfl
theorem ftyp97_10 : ftyp Try.prog 97 10 = some (96, 10) := by kernel_rfl
theorem szo98 : szo Try.prog 98 = some 11 := by kernel_rfl
theorem aggo98 : aggo Try.prog 98 = some true := by kernel_rfl
theorem zero98 : zeroL Try.prog 98 = some ([.v (.int .u64 0), .v (.int .u64 0), .v (.int .u32 0), .v (.int .u8 0), .v (.int .u8 0), .v (.int .u8 0), .v (.int .u8 0), .v .nilFunc, .v (.pointer none), .v (.int .i32 0), .v (.int .i32 0)]) := by kernel_rfl
theorem foff98_0 : foff Try.prog 98 0 = some 0 := by kernel_rfl
theorem ftyp98_0 : ftyp Try.prog 98 0 = some (12, 0) := by kernel_rfl
theorem foff98_1 : foff Try.prog 98 1 = some 1 := by kernel_rfl
theorem ftyp98_1 : ftyp Try.prog 98 1 = some (12, 1) := by kernel_rfl
theorem foff98_2 : foff Try.prog 98 2 = some 2 := by kernel_rfl
theorem ftyp98_2 : ftyp Try.prog 98 2 = some (90, 2) := by kernel_rfl
theorem foff98_3 : foff Try.prog 98 3 = some 3 := by kernel_rfl
theorem ftyp98_3 : ftyp Try.prog 98 3 = some (91, 3) := by kernel_rfl
theorem foff98_4 : foff Try.prog 98 4 = some 4 := by kernel_rfl
theorem ftyp98_4 : ftyp Try.prog 98 4 = some (5, 4) := by kernel_rfl
theorem foff98_5 : foff Try.prog 98 5 = some 5 := by kernel_rfl
theorem ftyp98_5 : ftyp Try.prog 98 5 = some (5, 5) := by kernel_rfl
theorem foff98_6 : foff Try.prog 98 6 = some 6 := by kernel_rfl
theorem ftyp98_6 : ftyp Try.prog 98 6 = some (92, 6) := by kernel_rfl
theorem foff98_8 : foff Try.prog 98 8 = some 8 := by kernel_rfl
theorem ftyp98_8 : ftyp Try.prog 98 8 = some (94, 8) := by kernel_rfl
theorem foff98_9 : foff Try.prog 98 9 = some 9 := by kernel_rfl
theorem ftyp98_9 : ftyp Try.prog 98 9 = some (95, 9) := by kernel_rfl
theorem foff98_10 : foff Try.prog 98 10 = some 10 := by kernel_rfl
theorem ftyp98_10 : ftyp Try.prog 98 10 = some (96, 10) := by kernel_rfl
attribute [go_sem] szo2 aggo2 zero2 und2 szo3 aggo3 zero3 und3 szo4 aggo4 zero4 und4 szo5 aggo5 zero5 und5 szo6 aggo6 zero6 und6 szo7 aggo7 zero7 bld7 foff7_0 ftyp7_0 foff7_1 ftyp7_1 foff7_2 ftyp7_2 foff7_3 ftyp7_3 eqo7 szo8 aggo8 zero8 bld8 foff8_0 ftyp8_0 foff8_1 ftyp8_1 foff8_2 ftyp8_2 foff8_3 ftyp8_3 eqo8 szo9 aggo9 zero9 und9 szo10 aggo10 zero10 und10 szo11 aggo11 zero11 und11 szo12 aggo12 zero12 und12 szo13 aggo13 zero13 bld13 foff13_0 ftyp13_0 foff13_1 ftyp13_1 szo14 aggo14 zero14 bld14 foff14_0 ftyp14_0 foff14_1 ftyp14_1 szo15 aggo15 zero15 szo16 aggo16 zero16 szo17 aggo17 zero17 szo18 aggo18 zero18 bld18 foff18_0 ftyp18_0 szo19 aggo19 zero19 bld19 foff19_0 ftyp19_0 szo21 aggo21 zero21 und21 szo22 aggo22 zero22 rowo22 slo22 slTy22 szo24 aggo24 zero24 rowo24 slo24 slTy24 szo25 aggo25 zero25 rowo25 slo25 slTy25 szo39 aggo39 zero39 rowo39 slo39 slTy39 szo49 aggo49 zero49 rowo49 slo49 slTy49 szo50 aggo50 zero50 rowo50 etyp50 bld50 eqo50 szo52 aggo52 zero52 und52 szo53 aggo53 zero53 und53 szo54 aggo54 zero54 bld54 foff54_0 ftyp54_0 foff54_1 ftyp54_1 foff54_2 ftyp54_2 eqo54 szo55 aggo55 zero55 bld55 foff55_0 ftyp55_0 foff55_1 ftyp55_1 foff55_2 ftyp55_2 eqo55 szo59 aggo59 zero59 bld59 foff59_0 ftyp59_0 foff59_1 ftyp59_1 foff59_2 ftyp59_2 eqo59 szo78 aggo78 zero78 rowo78 slo78 slTy78 szo84 aggo84 zero84 bld84 foff84_0 ftyp84_0 foff84_1 ftyp84_1 foff84_2 ftyp84_2 foff84_3 ftyp84_3 szo85 aggo85 zero85 bld85 foff85_0 ftyp85_0 foff85_1 ftyp85_1 foff85_2 ftyp85_2 foff85_3 ftyp85_3 szo86 aggo86 zero86 rowo86 etyp86 bld86 szo87 aggo87 zero87 bld87 ftyp87_0 szo88 aggo88 zero88 bld88 ftyp88_0 szo90 aggo90 zero90 und90 szo91 aggo91 zero91 und91 szo92 aggo92 zero92 und92 szo94 aggo94 zero94 szo95 aggo95 zero95 und95 szo96 aggo96 zero96 und96 szo97 aggo97 zero97 foff97_0 ftyp97_0 foff97_1 ftyp97_1 foff97_2 ftyp97_2 foff97_3 ftyp97_3 foff97_4 ftyp97_4 foff97_5 ftyp97_5 foff97_6 ftyp97_6 foff97_8 ftyp97_8 foff97_9 ftyp97_9 foff97_10 ftyp97_10 szo98 aggo98 zero98 foff98_0 ftyp98_0 foff98_1 ftyp98_1 foff98_2 ftyp98_2 foff98_3 ftyp98_3 foff98_4 ftyp98_4 foff98_5 ftyp98_5 foff98_6 ftyp98_6 foff98_8 ftyp98_8 foff98_9 ftyp98_9 foff98_10 ftyp98_10
theorem mixed : Try.prog.follows .mixedOrders = true := by kernel_rfl
end Go.Proofs.Ytpjimhkblldhaaa

