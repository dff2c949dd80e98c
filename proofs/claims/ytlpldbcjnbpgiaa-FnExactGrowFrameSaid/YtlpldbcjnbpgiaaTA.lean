/- What the types of the translated program are, as the walk asks for it. -/
import Derived.KernelRfl
import Derived.Test.YtlpldbcjnbpgiaaProg
import Derived.Test.YtlpldbcjnbpgiaaLC
set_option linter.unusedVariables false
set_option linter.unusedSimpArgs false
namespace Go.Proofs.Ytlpldbcjnbpgiaa
open Go Go.Sx
theorem szo2 : szo Try.prog 2 = some 1 := by kernel_rfl
theorem aggo2 : aggo Try.prog 2 = some false := by kernel_rfl
theorem zero2 : zeroL Try.prog 2 = some ([.v (.int .i64 0)]) := by kernel_rfl
theorem und2 : Try.prog.underlying 2 = some (.int .i64) := by kernel_rfl
theorem szo3 : szo Try.prog 3 = some 1 := by kernel_rfl
theorem aggo3 : aggo Try.prog 3 = some false := by kernel_rfl
theorem zero3 : zeroL Try.prog 3 = some ([.v (.int .i64 0)]) := by kernel_rfl
theorem und3 : Try.prog.underlying 3 = some (.int .i64) := by kernel_rfl
theorem szo4 : szo Try.prog 4 = some 1 := by kernel_rfl
theorem aggo4 : aggo Try.prog 4 = some false := by kernel_rfl
theorem zero4 : zeroL Try.prog 4 = some ([.v (.bool false)]) := by kernel_rfl
theorem und4 : Try.prog.underlying 4 = some .bool := by kernel_rfl
theorem szo5 : szo Try.prog 5 = some 1 := by kernel_rfl
theorem aggo5 : aggo Try.prog 5 = some false := by kernel_rfl
theorem zero5 : zeroL Try.prog 5 = some ([.v (.int .u8 0)]) := by kernel_rfl
theorem und5 : Try.prog.underlying 5 = some (.int .u8) := by kernel_rfl
theorem szo6 : szo Try.prog 6 = some 1 := by kernel_rfl
theorem aggo6 : aggo Try.prog 6 = some false := by kernel_rfl
theorem zero6 : zeroL Try.prog 6 = some ([.v (.int .u8 0)]) := by kernel_rfl
theorem und6 : Try.prog.underlying 6 = some (.int .u8) := by kernel_rfl
theorem szo7 : szo Try.prog 7 = some 4 := by kernel_rfl
theorem aggo7 : aggo Try.prog 7 = some true := by kernel_rfl
theorem zero7 : zeroL Try.prog 7 = some ([.v (.int .i64 0), .v (.int .i64 0), .v (.bool false), .v (.int .u8 0)]) := by kernel_rfl
theorem bld7 : bld Try.prog 7 = some (.st [(0, 1), (1, 1), (2, 1), (3, 1)]) := by kernel_rfl
theorem foff7_0 : foff Try.prog 7 0 = some 0 := by kernel_rfl
theorem ftyp7_0 : ftyp Try.prog 7 0 = some (2, 0) := by kernel_rfl
theorem foff7_1 : foff Try.prog 7 1 = some 1 := by kernel_rfl
theorem ftyp7_1 : ftyp Try.prog 7 1 = some (3, 1) := by kernel_rfl
theorem foff7_2 : foff Try.prog 7 2 = some 2 := by kernel_rfl
theorem ftyp7_2 : ftyp Try.prog 7 2 = some (4, 2) := by kernel_rfl
theorem foff7_3 : foff Try.prog 7 3 = some 3 := by kernel_rfl
theorem ftyp7_3 : ftyp Try.prog 7 3 = some (6, 3) := by kernel_rfl
theorem eqo7 : eqo Try.prog 7 = some [.i .i64, .i .i64, .b, .i .u8] := by kernel_rfl
theorem szo8 : szo Try.prog 8 = some 4 := by kernel_rfl
theorem aggo8 : aggo Try.prog 8 = some true := by kernel_rfl
theorem zero8 : zeroL Try.prog 8 = some ([.v (.int .i64 0), .v (.int .i64 0), .v (.bool false), .v (.int .u8 0)]) := by kernel_rfl
theorem bld8 : bld Try.prog 8 = some (.st [(0, 1), (1, 1), (2, 1), (3, 1)]) := by kernel_rfl
theorem foff8_0 : foff Try.prog 8 0 = some 0 := by kernel_rfl
theorem ftyp8_0 : ftyp Try.prog 8 0 = some (2, 0) := by kernel_rfl
theorem foff8_1 : foff Try.prog 8 1 = some 1 := by kernel_rfl
theorem ftyp8_1 : ftyp Try.prog 8 1 = some (3, 1) := by kernel_rfl
theorem foff8_2 : foff Try.prog 8 2 = some 2 := by kernel_rfl
theorem ftyp8_2 : ftyp Try.prog 8 2 = some (4, 2) := by kernel_rfl
theorem foff8_3 : foff Try.prog 8 3 = some 3 := by kernel_rfl
theorem ftyp8_3 : ftyp Try.prog 8 3 = some (6, 3) := by kernel_rfl
theorem eqo8 : eqo Try.prog 8 = some [.i .i64, .i .i64, .b, .i .u8] := by kernel_rfl
theorem szo9 : szo Try.prog 9 = some 1 := by kernel_rfl
theorem aggo9 : aggo Try.prog 9 = some false := by kernel_rfl
theorem zero9 : zeroL Try.prog 9 = some ([.v (.string ByteArray.empty)]) := by kernel_rfl
theorem und9 : Try.prog.underlying 9 = some .string := by kernel_rfl
theorem szo10 : szo Try.prog 10 = some 1 := by kernel_rfl
theorem aggo10 : aggo Try.prog 10 = some false := by kernel_rfl
theorem zero10 : zeroL Try.prog 10 = some ([.v (.string ByteArray.empty)]) := by kernel_rfl
theorem und10 : Try.prog.underlying 10 = some .string := by kernel_rfl
theorem szo11 : szo Try.prog 11 = some 1 := by kernel_rfl
theorem aggo11 : aggo Try.prog 11 = some false := by kernel_rfl
theorem zero11 : zeroL Try.prog 11 = some ([.v (.string ByteArray.empty)]) := by kernel_rfl
theorem und11 : Try.prog.underlying 11 = some .string := by kernel_rfl
theorem szo12 : szo Try.prog 12 = some 1 := by kernel_rfl
theorem aggo12 : aggo Try.prog 12 = some false := by kernel_rfl
theorem zero12 : zeroL Try.prog 12 = some ([.v (.int .u64 0)]) := by kernel_rfl
theorem und12 : Try.prog.underlying 12 = some (.int .u64) := by kernel_rfl
theorem szo13 : szo Try.prog 13 = some 2 := by kernel_rfl
theorem aggo13 : aggo Try.prog 13 = some true := by kernel_rfl
theorem zero13 : zeroL Try.prog 13 = some ([.v (.string ByteArray.empty), .v (.int .u64 0)]) := by kernel_rfl
theorem bld13 : bld Try.prog 13 = some (.st [(0, 1), (1, 1)]) := by kernel_rfl
theorem foff13_0 : foff Try.prog 13 0 = some 0 := by kernel_rfl
theorem ftyp13_0 : ftyp Try.prog 13 0 = some (9, 0) := by kernel_rfl
theorem foff13_1 : foff Try.prog 13 1 = some 1 := by kernel_rfl
theorem ftyp13_1 : ftyp Try.prog 13 1 = some (12, 1) := by kernel_rfl
theorem szo14 : szo Try.prog 14 = some 2 := by kernel_rfl
theorem aggo14 : aggo Try.prog 14 = some true := by kernel_rfl
theorem zero14 : zeroL Try.prog 14 = some ([.v (.string ByteArray.empty), .v (.int .u64 0)]) := by kernel_rfl
theorem bld14 : bld Try.prog 14 = some (.st [(0, 1), (1, 1)]) := by kernel_rfl
theorem foff14_0 : foff Try.prog 14 0 = some 0 := by kernel_rfl
theorem ftyp14_0 : ftyp Try.prog 14 0 = some (9, 0) := by kernel_rfl
theorem foff14_1 : foff Try.prog 14 1 = some 1 := by kernel_rfl
theorem ftyp14_1 : ftyp Try.prog 14 1 = some (12, 1) := by kernel_rfl
theorem szo15 : szo Try.prog 15 = some 1 := by kernel_rfl
theorem aggo15 : aggo Try.prog 15 = some false := by kernel_rfl
theorem zero15 : zeroL Try.prog 15 = some ([.v (.pointer none)]) := by kernel_rfl
theorem szo16 : szo Try.prog 16 = some 1 := by kernel_rfl
theorem aggo16 : aggo Try.prog 16 = some false := by kernel_rfl
theorem zero16 : zeroL Try.prog 16 = some ([.v (.pointer none)]) := by kernel_rfl
theorem szo17 : szo Try.prog 17 = some 1 := by kernel_rfl
theorem aggo17 : aggo Try.prog 17 = some false := by kernel_rfl
theorem zero17 : zeroL Try.prog 17 = some ([.v (.pointer none)]) := by kernel_rfl
theorem szo18 : szo Try.prog 18 = some 1 := by kernel_rfl
theorem aggo18 : aggo Try.prog 18 = some true := by kernel_rfl
theorem zero18 : zeroL Try.prog 18 = some ([.v (.pointer none)]) := by kernel_rfl
theorem bld18 : bld Try.prog 18 = some (.st [(0, 1)]) := by kernel_rfl
theorem foff18_0 : foff Try.prog 18 0 = some 0 := by kernel_rfl
theorem ftyp18_0 : ftyp Try.prog 18 0 = some (17, 0) := by kernel_rfl
theorem szo19 : szo Try.prog 19 = some 1 := by kernel_rfl
theorem aggo19 : aggo Try.prog 19 = some true := by kernel_rfl
theorem zero19 : zeroL Try.prog 19 = some ([.v (.pointer none)]) := by kernel_rfl
theorem bld19 : bld Try.prog 19 = some (.st [(0, 1)]) := by kernel_rfl
theorem foff19_0 : foff Try.prog 19 0 = some 0 := by kernel_rfl
theorem ftyp19_0 : ftyp Try.prog 19 0 = some (17, 0) := by kernel_rfl
theorem szo21 : szo Try.prog 21 = some 1 := by kernel_rfl
theorem aggo21 : aggo Try.prog 21 = some false := by kernel_rfl
theorem zero21 : zeroL Try.prog 21 = some ([.v (.int .i32 0)]) := by kernel_rfl
theorem und21 : Try.prog.underlying 21 = some (.int .i32) := by kernel_rfl
theorem szo22 : szo Try.prog 22 = some 1 := by kernel_rfl
theorem aggo22 : aggo Try.prog 22 = some false := by kernel_rfl
theorem zero22 : zeroL Try.prog 22 = some ([.v (.int .u16 0)]) := by kernel_rfl
theorem und22 : Try.prog.underlying 22 = some (.int .u16) := by kernel_rfl
theorem szo23 : szo Try.prog 23 = some 12 := by kernel_rfl
theorem aggo23 : aggo Try.prog 23 = some true := by kernel_rfl
theorem zero23 : zeroL Try.prog 23 = some (List.replicate 12 (.v (.int .u16 0))) := by kernel_rfl
theorem rowo23 : rowo Try.prog 23 = some (true, 12, 1) := by kernel_rfl
theorem etyp23 : etyp Try.prog 23 = some (12, 22, 1) := by kernel_rfl
theorem bld23 : bld Try.prog 23 = some (.ar 1) := by kernel_rfl
theorem eqo23 : eqo Try.prog 23 = some (List.replicate 12 (.i .u16)) := by kernel_rfl
theorem szo24 : szo Try.prog 24 = some 24 := by kernel_rfl
theorem aggo24 : aggo Try.prog 24 = some true := by kernel_rfl
theorem zero24 : zeroL Try.prog 24 = some (List.replicate 24 (.v (.int .u16 0))) := by kernel_rfl
theorem bld24 : bld Try.prog 24 = some (.st [(0, 12), (12, 12)]) := by kernel_rfl
theorem foff24_0 : foff Try.prog 24 0 = some 0 := by kernel_rfl
theorem ftyp24_0 : ftyp Try.prog 24 0 = some (23, 0) := by kernel_rfl
theorem foff24_1 : foff Try.prog 24 1 = some 12 := by kernel_rfl
theorem ftyp24_1 : ftyp Try.prog 24 1 = some (23, 12) := by kernel_rfl
theorem eqo24 : eqo Try.prog 24 = some (List.replicate 24 (.i .u16)) := by kernel_rfl
theorem szo25 : szo Try.prog 25 = some 24 := by kernel_rfl
theorem aggo25 : aggo Try.prog 25 = some true := by kernel_rfl
theorem zero25 : zeroL Try.prog 25 = some (List.replicate 24 (.v (.int .u16 0))) := by kernel_rfl
theorem bld25 : bld Try.prog 25 = some (.st [(0, 12), (12, 12)]) := by kernel_rfl
theorem foff25_0 : foff Try.prog 25 0 = some 0 := by kernel_rfl
theorem ftyp25_0 : ftyp Try.prog 25 0 = some (23, 0) := by kernel_rfl
theorem foff25_1 : foff Try.prog 25 1 = some 12 := by kernel_rfl
theorem ftyp25_1 : ftyp Try.prog 25 1 = some (23, 12) := by kernel_rfl
theorem eqo25 : eqo Try.prog 25 = some (List.replicate 24 (.i .u16)) := by kernel_rfl
theorem szo27 : szo Try.prog 27 = some 12 := by kernel_rfl
theorem aggo27 : aggo Try.prog 27 = some true := by kernel_rfl
theorem zero27 : zeroL Try.prog 27 = some (List.replicate 12 (.v (.int .u16 0))) := by kernel_rfl
theorem rowo27 : rowo Try.prog 27 = some (true, 12, 1) := by kernel_rfl
theorem etyp27 : etyp Try.prog 27 = some (12, 22, 1) := by kernel_rfl
theorem bld27 : bld Try.prog 27 = some (.ar 1) := by kernel_rfl
theorem eqo27 : eqo Try.prog 27 = some (List.replicate 12 (.i .u16)) := by kernel_rfl
theorem szo28 : szo Try.prog 28 = some 24 := by kernel_rfl
theorem aggo28 : aggo Try.prog 28 = some true := by kernel_rfl
theorem zero28 : zeroL Try.prog 28 = some (List.replicate 24 (.v (.int .u16 0))) := by kernel_rfl
theorem bld28 : bld Try.prog 28 = some (.st [(0, 12), (12, 12)]) := by kernel_rfl
theorem foff28_0 : foff Try.prog 28 0 = some 0 := by kernel_rfl
theorem ftyp28_0 : ftyp Try.prog 28 0 = some (27, 0) := by kernel_rfl
theorem foff28_1 : foff Try.prog 28 1 = some 12 := by kernel_rfl
theorem ftyp28_1 : ftyp Try.prog 28 1 = some (27, 12) := by kernel_rfl
theorem eqo28 : eqo Try.prog 28 = some (List.replicate 24 (.i .u16)) := by kernel_rfl
theorem szo29 : szo Try.prog 29 = some 24 := by kernel_rfl
theorem aggo29 : aggo Try.prog 29 = some true := by kernel_rfl
theorem zero29 : zeroL Try.prog 29 = some (List.replicate 24 (.v (.int .u16 0))) := by kernel_rfl
theorem bld29 : bld Try.prog 29 = some (.st [(0, 12), (12, 12)]) := by kernel_rfl
theorem foff29_0 : foff Try.prog 29 0 = some 0 := by kernel_rfl
theorem ftyp29_0 : ftyp Try.prog 29 0 = some (27, 0) := by kernel_rfl
theorem foff29_1 : foff Try.prog 29 1 = some 12 := by kernel_rfl
theorem ftyp29_1 : ftyp Try.prog 29 1 = some (27, 12) := by kernel_rfl
theorem eqo29 : eqo Try.prog 29 = some (List.replicate 24 (.i .u16)) := by kernel_rfl
theorem szo49 : szo Try.prog 49 = some 1 := by kernel_rfl
theorem aggo49 : aggo Try.prog 49 = some false := by kernel_rfl
theorem zero49 : zeroL Try.prog 49 = some ([.v (.pointer none)]) := by kernel_rfl
theorem szo53 : szo Try.prog 53 = some 1 := by kernel_rfl
theorem aggo53 : aggo Try.prog 53 = some false := by kernel_rfl
theorem zero53 : zeroL Try.prog 53 = some ([.v (.pointer none)]) := by kernel_rfl
theorem szo67 : szo Try.prog 67 = some 1 := by kernel_rfl
theorem aggo67 : aggo Try.prog 67 = some false := by kernel_rfl
theorem zero67 : zeroL Try.prog 67 = some ([.v (.slice none 0 0)]) := by kernel_rfl
theorem rowo67 : rowo Try.prog 67 = some (false, 0, 12) := by kernel_rfl
theorem slo67 : slo Try.prog 67 = some (27, 12, 24) := by kernel_rfl
theorem slTy67 : slTy Try.prog 67 = true := by kernel_rfl
theorem szo71 : szo Try.prog 71 = some 1 := by kernel_rfl
theorem aggo71 : aggo Try.prog 71 = some false := by kernel_rfl
theorem zero71 : zeroL Try.prog 71 = some ([.v (.slice none 0 0)]) := by kernel_rfl
theorem rowo71 : rowo Try.prog 71 = some (false, 0, 2) := by kernel_rfl
theorem slo71 : slo Try.prog 71 = some (75, 2, 2) := by kernel_rfl
theorem slTy71 : slTy Try.prog 71 = true := by kernel_rfl
theorem szo73 : szo Try.prog 73 = some 1 := by kernel_rfl
theorem aggo73 : aggo Try.prog 73 = some false := by kernel_rfl
theorem zero73 : zeroL Try.prog 73 = some ([.v (.int .i8 0)]) := by kernel_rfl
theorem und73 : Try.prog.underlying 73 = some (.int .i8) := by kernel_rfl
theorem szo74 : szo Try.prog 74 = some 2 := by kernel_rfl
theorem aggo74 : aggo Try.prog 74 = some true := by kernel_rfl
theorem zero74 : zeroL Try.prog 74 = some ([.v (.int .i8 0), .v (.int .i8 0)]) := by kernel_rfl
theorem bld74 : bld Try.prog 74 = some (.st [(0, 1), (1, 1)]) := by kernel_rfl
theorem foff74_0 : foff Try.prog 74 0 = some 0 := by kernel_rfl
theorem ftyp74_0 : ftyp Try.prog 74 0 = some (73, 0) := by kernel_rfl
theorem foff74_1 : foff Try.prog 74 1 = some 1 := by kernel_rfl
theorem ftyp74_1 : ftyp Try.prog 74 1 = some (73, 1) := by kernel_rfl
theorem eqo74 : eqo Try.prog 74 = some [.i .i8, .i .i8] := by kernel_rfl
theorem szo75 : szo Try.prog 75 = some 2 := by kernel_rfl
theorem aggo75 : aggo Try.prog 75 = some true := by kernel_rfl
theorem zero75 : zeroL Try.prog 75 = some ([.v (.int .i8 0), .v (.int .i8 0)]) := by kernel_rfl
theorem bld75 : bld Try.prog 75 = some (.st [(0, 1), (1, 1)]) := by kernel_rfl
theorem foff75_0 : foff Try.prog 75 0 = some 0 := by kernel_rfl
theorem ftyp75_0 : ftyp Try.prog 75 0 = some (73, 0) := by kernel_rfl
theorem foff75_1 : foff Try.prog 75 1 = some 1 := by kernel_rfl
theorem ftyp75_1 : ftyp Try.prog 75 1 = some (73, 1) := by kernel_rfl
theorem eqo75 : eqo Try.prog 75 = some [.i .i8, .i .i8] := by kernel_rfl
theorem szo78 : szo Try.prog 78 = some 1 := by kernel_rfl
theorem aggo78 : aggo Try.prog 78 = some false := by kernel_rfl
theorem zero78 : zeroL Try.prog 78 = some ([.v (.slice none 0 0)]) := by kernel_rfl
theorem rowo78 : rowo Try.prog 78 = some (false, 0, 1) := by kernel_rfl
theorem slo78 : slo Try.prog 78 = some (22, 1, 2) := by kernel_rfl
theorem slTy78 : slTy Try.prog 78 = true := by kernel_rfl
theorem szo84 : szo Try.prog 84 = some 1 := by kernel_rfl
theorem aggo84 : aggo Try.prog 84 = some false := by kernel_rfl
theorem zero84 : zeroL Try.prog 84 = some ([.v (.int .u64 0)]) := by kernel_rfl
theorem und84 : Try.prog.underlying 84 = some (.int .u64) := by kernel_rfl
theorem szo87 : szo Try.prog 87 = some 4 := by kernel_rfl
theorem aggo87 : aggo Try.prog 87 = some true := by kernel_rfl
theorem zero87 : zeroL Try.prog 87 = some ([.v (.pointer none), .v (.pointer none), .v (.pointer none), .v (.string ByteArray.empty)]) := by kernel_rfl
theorem bld87 : bld Try.prog 87 = some (.st [(0, 1), (1, 1), (2, 1), (3, 1)]) := by kernel_rfl
theorem foff87_0 : foff Try.prog 87 0 = some 0 := by kernel_rfl
theorem ftyp87_0 : ftyp Try.prog 87 0 = some (17, 0) := by kernel_rfl
theorem foff87_1 : foff Try.prog 87 1 = some 1 := by kernel_rfl
theorem ftyp87_1 : ftyp Try.prog 87 1 = some (17, 1) := by kernel_rfl
theorem foff87_2 : foff Try.prog 87 2 = some 2 := by kernel_rfl
theorem ftyp87_2 : ftyp Try.prog 87 2 = some (17, 2) := by kernel_rfl
theorem foff87_3 : foff Try.prog 87 3 = some 3 := by kernel_rfl
theorem ftyp87_3 : ftyp Try.prog 87 3 = some (9, 3) := by kernel_rfl
theorem szo88 : szo Try.prog 88 = some 4 := by kernel_rfl
theorem aggo88 : aggo Try.prog 88 = some true := by kernel_rfl
theorem zero88 : zeroL Try.prog 88 = some ([.v (.pointer none), .v (.pointer none), .v (.pointer none), .v (.string ByteArray.empty)]) := by kernel_rfl
theorem bld88 : bld Try.prog 88 = some (.st [(0, 1), (1, 1), (2, 1), (3, 1)]) := by kernel_rfl
theorem foff88_0 : foff Try.prog 88 0 = some 0 := by kernel_rfl
theorem ftyp88_0 : ftyp Try.prog 88 0 = some (17, 0) := by kernel_rfl
theorem foff88_1 : foff Try.prog 88 1 = some 1 := by kernel_rfl
theorem ftyp88_1 : ftyp Try.prog 88 1 = some (17, 1) := by kernel_rfl
theorem foff88_2 : foff Try.prog 88 2 = some 2 := by kernel_rfl
theorem ftyp88_2 : ftyp Try.prog 88 2 = some (17, 2) := by kernel_rfl
theorem foff88_3 : foff Try.prog 88 3 = some 3 := by kernel_rfl
theorem ftyp88_3 : ftyp Try.prog 88 3 = some (9, 3) := by kernel_rfl
theorem szo89 : szo Try.prog 89 = some 0 := by kernel_rfl
theorem aggo89 : aggo Try.prog 89 = some true := by kernel_rfl
theorem zero89 : zeroL Try.prog 89 = some ([]) := by kernel_rfl
theorem rowo89 : rowo Try.prog 89 = some (true, 0, 1) := by kernel_rfl
theorem etyp89 : etyp Try.prog 89 = some (0, 16, 1) := by kernel_rfl
theorem bld89 : bld Try.prog 89 = some (.ar 1) := by kernel_rfl
theorem szo90 : szo Try.prog 90 = some 0 := by kernel_rfl
theorem aggo90 : aggo Try.prog 90 = some true := by kernel_rfl
theorem zero90 : zeroL Try.prog 90 = some ([]) := by kernel_rfl
theorem bld90 : bld Try.prog 90 = some (.st [(0, 0)]) := by kernel_rfl
theorem ftyp90_0 : ftyp Try.prog 90 0 = some (89, 0) := by kernel_rfl
theorem szo91 : szo Try.prog 91 = some 0 := by kernel_rfl
theorem aggo91 : aggo Try.prog 91 = some true := by kernel_rfl
theorem zero91 : zeroL Try.prog 91 = some ([]) := by kernel_rfl
theorem bld91 : bld Try.prog 91 = some (.st [(0, 0)]) := by kernel_rfl
theorem ftyp91_0 : ftyp Try.prog 91 0 = some (89, 0) := by kernel_rfl
theorem szo93 : szo Try.prog 93 = some 1 := by kernel_rfl
theorem aggo93 : aggo Try.prog 93 = some false := by kernel_rfl
theorem zero93 : zeroL Try.prog 93 = some ([.v (.int .u32 0)]) := by kernel_rfl
theorem und93 : Try.prog.underlying 93 = some (.int .u32) := by kernel_rfl
theorem szo94 : szo Try.prog 94 = some 1 := by kernel_rfl
theorem aggo94 : aggo Try.prog 94 = some false := by kernel_rfl
theorem zero94 : zeroL Try.prog 94 = some ([.v (.int .u8 0)]) := by kernel_rfl
theorem und94 : Try.prog.underlying 94 = some (.int .u8) := by kernel_rfl
theorem szo95 : szo Try.prog 95 = some 1 := by kernel_rfl
theorem aggo95 : aggo Try.prog 95 = some false := by kernel_rfl
theorem zero95 : zeroL Try.prog 95 = some ([.v (.int .u8 0)]) := by kernel_rfl
theorem und95 : Try.prog.underlying 95 = some (.int .u8) := by kernel_rfl
theorem szo97 : szo Try.prog 97 = some 1 := by kernel_rfl
theorem aggo97 : aggo Try.prog 97 = some false := by kernel_rfl
theorem zero97 : zeroL Try.prog 97 = some ([.v (.pointer none)]) := by kernel_rfl
theorem szo98 : szo Try.prog 98 = some 1 := by kernel_rfl
theorem aggo98 : aggo Try.prog 98 = some false := by kernel_rfl
theorem zero98 : zeroL Try.prog 98 = some ([.v (.int .i32 0)]) := by kernel_rfl
theorem und98 : Try.prog.underlying 98 = some (.int .i32) := by kernel_rfl
theorem szo99 : szo Try.prog 99 = some 1 := by kernel_rfl
theorem aggo99 : aggo Try.prog 99 = some false := by kernel_rfl
theorem zero99 : zeroL Try.prog 99 = some ([.v (.int .i32 0)]) := by kernel_rfl
theorem und99 : Try.prog.underlying 99 = some (.int .i32) := by kernel_rfl
theorem szo100 : szo Try.prog 100 = some 11 := by kernel_rfl
theorem aggo100 : aggo Try.prog 100 = some true := by kernel_rfl
theorem zero100 : zeroL Try.prog 100 = some ([.v (.int .u64 0), .v (.int .u64 0), .v (.int .u32 0), .v (.int .u8 0), .v (.int .u8 0), .v (.int .u8 0), .v (.int .u8 0), .v .nilFunc, .v (.pointer none), .v (.int .i32 0), .v (.int .i32 0)]) := by kernel_rfl
theorem foff100_0 : foff Try.prog 100 0 = some 0 := by kernel_rfl
theorem ftyp100_0 : ftyp Try.prog 100 0 = some (12, 0) := by kernel_rfl
theorem foff100_1 : foff Try.prog 100 1 = some 1 := by kernel_rfl
theorem ftyp100_1 : ftyp Try.prog 100 1 = some (12, 1) := by kernel_rfl
theorem foff100_2 : foff Try.prog 100 2 = some 2 := by kernel_rfl
theorem ftyp100_2 : ftyp Try.prog 100 2 = some (93, 2) := by kernel_rfl
theorem foff100_3 : foff Try.prog 100 3 = some 3 := by kernel_rfl
theorem ftyp100_3 : ftyp Try.prog 100 3 = some (94, 3) := by kernel_rfl
theorem foff100_4 : foff Try.prog 100 4 = some 4 := by kernel_rfl
theorem ftyp100_4 : ftyp Try.prog 100 4 = some (5, 4) := by kernel_rfl
theorem foff100_5 : foff Try.prog 100 5 = some 5 := by kernel_rfl
theorem ftyp100_5 : ftyp Try.prog 100 5 = some (5, 5) := by kernel_rfl
theorem foff100_6 : foff Try.prog 100 6 = some 6 := by kernel_rfl
theorem ftyp100_6 : ftyp Try.prog 100 6 = some (95, 6) := by kernel_rfl
theorem foff100_8 : foff Try.prog 100 8 = some 8 := by kernel_rfl
theorem ftyp100_8 : ftyp Try.prog 100 8 = some (97, 8) := by kernel_rfl
theorem foff100_9 : foff Try.prog 100 9 = some 9 := by kernel_rfl
theorem ftyp100_9 : ftyp Try.prog 100 9 = some (98, 9) := by kernel_rfl
theorem foff100_10 : foff Try.prog 100 10 = some 10 := by kernel_rfl
theorem ftyp100_10 : ftyp Try.prog 100 10 = some (99, 10) := by kernel_rfl
theorem szo101 : szo Try.prog 101 = some 11 := by kernel_rfl
theorem aggo101 : aggo Try.prog 101 = some true := by kernel_rfl
theorem zero101 : zeroL Try.prog 101 = some ([.v (.int .u64 0), .v (.int .u64 0), .v (.int .u32 0), .v (.int .u8 0), .v (.int .u8 0), .v (.int .u8 0), .v (.int .u8 0), .v .nilFunc, .v (.pointer none), .v (.int .i32 0), .v (.int .i32 0)]) := by kernel_rfl
theorem foff101_0 : foff Try.prog 101 0 = some 0 := by kernel_rfl
theorem ftyp101_0 : ftyp Try.prog 101 0 = some (12, 0) := by kernel_rfl
theorem foff101_1 : foff Try.prog 101 1 = some 1 := by kernel_rfl
theorem ftyp101_1 : ftyp Try.prog 101 1 = some (12, 1) := by kernel_rfl
theorem foff101_2 : foff Try.prog 101 2 = some 2 := by kernel_rfl
theorem ftyp101_2 : ftyp Try.prog 101 2 = some (93, 2) := by kernel_rfl
theorem foff101_3 : foff Try.prog 101 3 = some 3 := by kernel_rfl
theorem ftyp101_3 : ftyp Try.prog 101 3 = some (94, 3) := by kernel_rfl
theorem foff101_4 : foff Try.prog 101 4 = some 4 := by kernel_rfl
theorem ftyp101_4 : ftyp Try.prog 101 4 = some (5, 4) := by kernel_rfl
theorem foff101_5 : foff Try.prog 101 5 = some 5 := by kernel_rfl
theorem ftyp101_5 : ftyp Try.prog 101 5 = some (5, 5) := by kernel_rfl
theorem foff101_6 : foff Try.prog 101 6 = some 6 := by kernel_rfl
theorem ftyp101_6 : ftyp Try.prog 101 6 = some (95, 6) := by kernel_rfl
theorem foff101_8 : foff Try.prog 101 8 = some 8 := by kernel_rfl
theorem ftyp101_8 : ftyp Try.prog 101 8 = some (97, 8) := by kernel_rfl
theorem foff101_9 : foff Try.prog 101 9 = some 9 := by kernel_rfl
theorem ftyp101_9 : ftyp Try.prog 101 9 = some (98, 9) := by kernel_rfl
theorem foff101_10 : foff Try.prog 101 10 = some 10 := by kernel_rfl
theorem ftyp101_10 : ftyp Try.prog 101 10 = some (99, 10) := by kernel_rfl
attribute [go_sem] szo2 aggo2 zero2 und2 szo3 aggo3 zero3 und3 szo4 aggo4 zero4 und4 szo5 aggo5 zero5 und5 szo6 aggo6 zero6 und6 szo7 aggo7 zero7 bld7 foff7_0 ftyp7_0 foff7_1 ftyp7_1 foff7_2 ftyp7_2 foff7_3 ftyp7_3 eqo7 szo8 aggo8 zero8 bld8 foff8_0 ftyp8_0 foff8_1 ftyp8_1 foff8_2 ftyp8_2 foff8_3 ftyp8_3 eqo8 szo9 aggo9 zero9 und9 szo10 aggo10 zero10 und10 szo11 aggo11 zero11 und11 szo12 aggo12 zero12 und12 szo13 aggo13 zero13 bld13 foff13_0 ftyp13_0 foff13_1 ftyp13_1 szo14 aggo14 zero14 bld14 foff14_0 ftyp14_0 foff14_1 ftyp14_1 szo15 aggo15 zero15 szo16 aggo16 zero16 szo17 aggo17 zero17 szo18 aggo18 zero18 bld18 foff18_0 ftyp18_0 szo19 aggo19 zero19 bld19 foff19_0 ftyp19_0 szo21 aggo21 zero21 und21 szo22 aggo22 zero22 und22 szo23 aggo23 zero23 rowo23 etyp23 bld23 eqo23 szo24 aggo24 zero24 bld24 foff24_0 ftyp24_0 foff24_1 ftyp24_1 eqo24 szo25 aggo25 zero25 bld25 foff25_0 ftyp25_0 foff25_1 ftyp25_1 eqo25 szo27 aggo27 zero27 rowo27 etyp27 bld27 eqo27 szo28 aggo28 zero28 bld28 foff28_0 ftyp28_0 foff28_1 ftyp28_1 eqo28 szo29 aggo29 zero29 bld29 foff29_0 ftyp29_0 foff29_1 ftyp29_1 eqo29 szo49 aggo49 zero49 szo53 aggo53 zero53 szo67 aggo67 zero67 rowo67 slo67 slTy67 szo71 aggo71 zero71 rowo71 slo71 slTy71 szo73 aggo73 zero73 und73 szo74 aggo74 zero74 bld74 foff74_0 ftyp74_0 foff74_1 ftyp74_1 eqo74 szo75 aggo75 zero75 bld75 foff75_0 ftyp75_0 foff75_1 ftyp75_1 eqo75 szo78 aggo78 zero78 rowo78 slo78 slTy78 szo84 aggo84 zero84 und84 szo87 aggo87 zero87 bld87 foff87_0 ftyp87_0 foff87_1 ftyp87_1 foff87_2 ftyp87_2 foff87_3 ftyp87_3 szo88 aggo88 zero88 bld88 foff88_0 ftyp88_0 foff88_1 ftyp88_1 foff88_2 ftyp88_2 foff88_3 ftyp88_3 szo89 aggo89 zero89 rowo89 etyp89 bld89 szo90 aggo90 zero90 bld90 ftyp90_0 szo91 aggo91 zero91 bld91 ftyp91_0 szo93 aggo93 zero93 und93 szo94 aggo94 zero94 und94 szo95 aggo95 zero95 und95 szo97 aggo97 zero97 szo98 aggo98 zero98 und98 szo99 aggo99 zero99 und99 szo100 aggo100 zero100 foff100_0 ftyp100_0 foff100_1 ftyp100_1 foff100_2 ftyp100_2 foff100_3 ftyp100_3 foff100_4 ftyp100_4 foff100_5 ftyp100_5 foff100_6 ftyp100_6 foff100_8 ftyp100_8 foff100_9 ftyp100_9 foff100_10 ftyp100_10 szo101 aggo101 zero101 foff101_0 ftyp101_0 foff101_1 ftyp101_1 foff101_2 ftyp101_2 foff101_3 ftyp101_3 foff101_4 ftyp101_4 foff101_5 ftyp101_5 foff101_6 ftyp101_6 foff101_8 ftyp101_8 foff101_9 ftyp101_9 foff101_10 ftyp101_10
theorem mixed : Try.prog.follows .mixedOrders = true := by kernel_rfl
end Go.Proofs.Ytlpldbcjnbpgiaa
