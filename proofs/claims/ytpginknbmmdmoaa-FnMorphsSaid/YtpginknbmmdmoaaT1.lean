/- What the types of the translated program are, as the walk asks for it. -/
import Derived.KernelRfl
import Derived.Test.YtpginknbmmdmoaaProg
import Derived.Test.YtpginknbmmdmoaaLC
set_option linter.unusedVariables false
set_option linter.unusedSimpArgs false
set_option maxRecDepth 8000
set_option maxHeartbeats 4000000
namespace Go.Proofs.Ytpginknbmmdmoaa
open Go Go.Sx
theorem szo2 : szo Try.prog 2 = some 1 := by kernel_rfl
theorem aggo2 : aggo Try.prog 2 = some false := by kernel_rfl
theorem zero2 : zeroL Try.prog 2 = some ([.v (.int .i64 0)]) := by kernel_rfl
theorem und2 : Try.prog.underlying 2 = some (.int .i64) := by kernel_rfl
theorem szo3 : szo Try.prog 3 = some 1 := by kernel_rfl
theorem aggo3 : aggo Try.prog 3 = some false := by kernel_rfl
theorem zero3 : zeroL Try.prog 3 = some ([.v (.int .i64 0)]) := by kernel_rfl
theorem und3 : Try.prog.underlying 3 = some (.int .i64) := by kernel_rfl
theorem szo4 : szo Try.prog 4 = some 1 := by kernel_rfl
theorem aggo4 : aggo Try.prog 4 = some false := by kernel_rfl
theorem zero4 : zeroL Try.prog 4 = some ([.v (.bool false)]) := by kernel_rfl
theorem und4 : Try.prog.underlying 4 = some .bool := by kernel_rfl
theorem szo5 : szo Try.prog 5 = some 1 := by kernel_rfl
theorem aggo5 : aggo Try.prog 5 = some false := by kernel_rfl
theorem zero5 : zeroL Try.prog 5 = some ([.v (.int .u8 0)]) := by kernel_rfl
theorem und5 : Try.prog.underlying 5 = some (.int .u8) := by kernel_rfl
theorem szo6 : szo Try.prog 6 = some 1 := by kernel_rfl
theorem aggo6 : aggo Try.prog 6 = some false := by kernel_rfl
theorem zero6 : zeroL Try.prog 6 = some ([.v (.int .u8 0)]) := by kernel_rfl
theorem und6 : Try.prog.underlying 6 = some (.int .u8) := by kernel_rfl
theorem szo7 : szo Try.prog 7 = some 4 := by kernel_rfl
theorem aggo7 : aggo Try.prog 7 = some true := by kernel_rfl
theorem zero7 : zeroL Try.prog 7 = some ([.v (.int .i64 0), .v (.int .i64 0), .v (.bool false), .v (.int .u8 0)]) := by kernel_rfl
theorem bld7 : bld Try.prog 7 = some (.st [(0, 1), (1, 1), (2, 1), (3, 1)]) := by kernel_rfl
theorem foff7_0 : foff Try.prog 7 0 = some 0 := by kernel_rfl
theorem ftyp7_0 : ftyp Try.prog 7 0 = some (2, 0) := by kernel_rfl
theorem foff7_1 : foff Try.prog 7 1 = some 1 := by kernel_rfl
theorem ftyp7_1 : ftyp Try.prog 7 1 = some (3, 1) := by kernel_rfl
theorem foff7_2 : foff Try.prog 7 2 = some 2 := by kernel_rfl
theorem ftyp7_2 : ftyp Try.prog 7 2 = some (4, 2) := by kernel_rfl
theorem foff7_3 : foff Try.prog 7 3 = some 3 := by kernel_rfl
theorem ftyp7_3 : ftyp Try.prog 7 3 = some (6, 3) := by kernel_rfl
theorem eqo7 : eqo Try.prog 7 = some [.i .i64, .i .i64, .b, .i .u8] := by kernel_rfl
theorem szo8 : szo Try.prog 8 = some 4 := by kernel_rfl
theorem aggo8 : aggo Try.prog 8 = some true := by kernel_rfl
theorem zero8 : zeroL Try.prog 8 = some ([.v (.int .i64 0), .v (.int .i64 0), .v (.bool false), .v (.int .u8 0)]) := by kernel_rfl
theorem bld8 : bld Try.prog 8 = some (.st [(0, 1), (1, 1), (2, 1), (3, 1)]) := by kernel_rfl
theorem foff8_0 : foff Try.prog 8 0 = some 0 := by kernel_rfl
theorem ftyp8_0 : ftyp Try.prog 8 0 = some (2, 0) := by kernel_rfl
theorem foff8_1 : foff Try.prog 8 1 = some 1 := by kernel_rfl
theorem ftyp8_1 : ftyp Try.prog 8 1 = some (3, 1) := by kernel_rfl
theorem foff8_2 : foff Try.prog 8 2 = some 2 := by kernel_rfl
theorem ftyp8_2 : ftyp Try.prog 8 2 = some (4, 2) := by kernel_rfl
theorem foff8_3 : foff Try.prog 8 3 = some 3 := by kernel_rfl
theorem ftyp8_3 : ftyp Try.prog 8 3 = some (6, 3) := by kernel_rfl
theorem eqo8 : eqo Try.prog 8 = some [.i .i64, .i .i64, .b, .i .u8] := by kernel_rfl
theorem szo9 : szo Try.prog 9 = some 1 := by kernel_rfl
theorem aggo9 : aggo Try.prog 9 = some false := by kernel_rfl
theorem zero9 : zeroL Try.prog 9 = some ([.v (.string ByteArray.empty)]) := by kernel_rfl
theorem und9 : Try.prog.underlying 9 = some .string := by kernel_rfl
theorem szo10 : szo Try.prog 10 = some 1 := by kernel_rfl
theorem aggo10 : aggo Try.prog 10 = some false := by kernel_rfl
theorem zero10 : zeroL Try.prog 10 = some ([.v (.string ByteArray.empty)]) := by kernel_rfl
theorem und10 : Try.prog.underlying 10 = some .string := by kernel_rfl
theorem szo11 : szo Try.prog 11 = some 1 := by kernel_rfl
theorem aggo11 : aggo Try.prog 11 = some false := by kernel_rfl
theorem zero11 : zeroL Try.prog 11 = some ([.v (.string ByteArray.empty)]) := by kernel_rfl
theorem und11 : Try.prog.underlying 11 = some .string := by kernel_rfl
theorem szo12 : szo Try.prog 12 = some 1 := by kernel_rfl
theorem aggo12 : aggo Try.prog 12 = some false := by kernel_rfl
theorem zero12 : zeroL Try.prog 12 = some ([.v (.int .u64 0)]) := by kernel_rfl
theorem und12 : Try.prog.underlying 12 = some (.int .u64) := by kernel_rfl
theorem szo13 : szo Try.prog 13 = some 2 := by kernel_rfl
theorem aggo13 : aggo Try.prog 13 = some true := by kernel_rfl
theorem zero13 : zeroL Try.prog 13 = some ([.v (.string ByteArray.empty), .v (.int .u64 0)]) := by kernel_rfl
theorem bld13 : bld Try.prog 13 = some (.st [(0, 1), (1, 1)]) := by kernel_rfl
theorem foff13_0 : foff Try.prog 13 0 = some 0 := by kernel_rfl
theorem ftyp13_0 : ftyp Try.prog 13 0 = some (9, 0) := by kernel_rfl
theorem foff13_1 : foff Try.prog 13 1 = some 1 := by kernel_rfl
theorem ftyp13_1 : ftyp Try.prog 13 1 = some (12, 1) := by kernel_rfl
theorem szo14 : szo Try.prog 14 = some 2 := by kernel_rfl
theorem aggo14 : aggo Try.prog 14 = some true := by kernel_rfl
theorem zero14 : zeroL Try.prog 14 = some ([.v (.string ByteArray.empty), .v (.int .u64 0)]) := by kernel_rfl
theorem bld14 : bld Try.prog 14 = some (.st [(0, 1), (1, 1)]) := by kernel_rfl
theorem foff14_0 : foff Try.prog 14 0 = some 0 := by kernel_rfl
theorem ftyp14_0 : ftyp Try.prog 14 0 = some (9, 0) := by kernel_rfl
theorem foff14_1 : foff Try.prog 14 1 = some 1 := by kernel_rfl
theorem ftyp14_1 : ftyp Try.prog 14 1 = some (12, 1) := by kernel_rfl
theorem szo15 : szo Try.prog 15 = some 1 := by kernel_rfl
theorem aggo15 : aggo Try.prog 15 = some false := by kernel_rfl
theorem zero15 : zeroL Try.prog 15 = some ([.v (.pointer none)]) := by kernel_rfl
theorem szo16 : szo Try.prog 16 = some 1 := by kernel_rfl
theorem aggo16 : aggo Try.prog 16 = some false := by kernel_rfl
theorem zero16 : zeroL Try.prog 16 = some ([.v (.pointer none)]) := by kernel_rfl
theorem szo17 : szo Try.prog 17 = some 1 := by kernel_rfl
theorem aggo17 : aggo Try.prog 17 = some false := by kernel_rfl
theorem zero17 : zeroL Try.prog 17 = some ([.v (.pointer none)]) := by kernel_rfl
theorem szo18 : szo Try.prog 18 = some 1 := by kernel_rfl
theorem aggo18 : aggo Try.prog 18 = some true := by kernel_rfl
theorem zero18 : zeroL Try.prog 18 = some ([.v (.pointer none)]) := by kernel_rfl
theorem bld18 : bld Try.prog 18 = some (.st [(0, 1)]) := by kernel_rfl
theorem foff18_0 : foff Try.prog 18 0 = some 0 := by kernel_rfl
theorem ftyp18_0 : ftyp Try.prog 18 0 = some (17, 0) := by kernel_rfl
theorem szo19 : szo Try.prog 19 = some 1 := by kernel_rfl
theorem aggo19 : aggo Try.prog 19 = some true := by kernel_rfl
theorem zero19 : zeroL Try.prog 19 = some ([.v (.pointer none)]) := by kernel_rfl
theorem bld19 : bld Try.prog 19 = some (.st [(0, 1)]) := by kernel_rfl
theorem foff19_0 : foff Try.prog 19 0 = some 0 := by kernel_rfl
theorem ftyp19_0 : ftyp Try.prog 19 0 = some (17, 0) := by kernel_rfl
theorem szo21 : szo Try.prog 21 = some 1 := by kernel_rfl
theorem aggo21 : aggo Try.prog 21 = some false := by kernel_rfl
theorem zero21 : zeroL Try.prog 21 = some ([.v (.int .i32 0)]) := by kernel_rfl
theorem und21 : Try.prog.underlying 21 = some (.int .i32) := by kernel_rfl
theorem szo22 : szo Try.prog 22 = some 1 := by kernel_rfl
theorem aggo22 : aggo Try.prog 22 = some false := by kernel_rfl
theorem zero22 : zeroL Try.prog 22 = some ([.v (.int .u16 0)]) := by kernel_rfl
theorem und22 : Try.prog.underlying 22 = some (.int .u16) := by kernel_rfl
theorem szo23 : szo Try.prog 23 = some 12 := by kernel_rfl
theorem aggo23 : aggo Try.prog 23 = some true := by kernel_rfl
theorem zero23 : zeroL Try.prog 23 = some (List.replicate 12 (.v (.int .u16 0))) := by kernel_rfl
theorem rowo23 : rowo Try.prog 23 = some (true, 12, 1) := by kernel_rfl
theorem etyp23 : etyp Try.prog 23 = some (12, 22, 1) := by kernel_rfl
theorem bld23 : bld Try.prog 23 = some (.ar 1) := by kernel_rfl
theorem eqo23 : eqo Try.prog 23 = some (List.replicate 12 (.i .u16)) := by kernel_rfl
theorem szo24 : szo Try.prog 24 = some 12 := by kernel_rfl
theorem aggo24 : aggo Try.prog 24 = some true := by kernel_rfl
theorem zero24 : zeroL Try.prog 24 = some (List.replicate 12 (.v (.int .u16 0))) := by kernel_rfl
theorem rowo24 : rowo Try.prog 24 = some (true, 12, 1) := by kernel_rfl
theorem etyp24 : etyp Try.prog 24 = some (12, 22, 1) := by kernel_rfl
theorem bld24 : bld Try.prog 24 = some (.ar 1) := by kernel_rfl
theorem eqo24 : eqo Try.prog 24 = some (List.replicate 12 (.i .u16)) := by kernel_rfl
theorem szo30 : szo Try.prog 30 = some 1 := by kernel_rfl
theorem aggo30 : aggo Try.prog 30 = some false := by kernel_rfl
theorem zero30 : zeroL Try.prog 30 = some ([.v (.slice none 0 0)]) := by kernel_rfl
theorem rowo30 : rowo Try.prog 30 = some (false, 0, 27) := by kernel_rfl
theorem slo30 : slo Try.prog 30 = some (99, 27, 52) := by kernel_rfl
theorem slTy30 : slTy Try.prog 30 = true := by kernel_rfl
theorem szo33 : szo Try.prog 33 = some 1 := by kernel_rfl
theorem aggo33 : aggo Try.prog 33 = some false := by kernel_rfl
theorem zero33 : zeroL Try.prog 33 = some ([.v (.slice none 0 0)]) := by kernel_rfl
theorem rowo33 : rowo Try.prog 33 = some (false, 0, 27) := by kernel_rfl
theorem slo33 : slo Try.prog 33 = some (95, 27, 52) := by kernel_rfl
theorem slTy33 : slTy Try.prog 33 = true := by kernel_rfl
theorem szo34 : szo Try.prog 34 = some 1 := by kernel_rfl
theorem aggo34 : aggo Try.prog 34 = some false := by kernel_rfl
theorem zero34 : zeroL Try.prog 34 = some ([.v (.slice none 0 0)]) := by kernel_rfl
theorem rowo34 : rowo Try.prog 34 = some (false, 0, 27) := by kernel_rfl
theorem slo34 : slo Try.prog 34 = some (95, 27, 52) := by kernel_rfl
theorem slTy34 : slTy Try.prog 34 = true := by kernel_rfl
theorem szo37 : szo Try.prog 37 = some 24 := by kernel_rfl
theorem aggo37 : aggo Try.prog 37 = some true := by kernel_rfl
theorem zero37 : zeroL Try.prog 37 = some (List.replicate 24 (.v (.int .u16 0))) := by kernel_rfl
theorem bld37 : bld Try.prog 37 = some (.st [(0, 12), (12, 12)]) := by kernel_rfl
theorem foff37_0 : foff Try.prog 37 0 = some 0 := by kernel_rfl
theorem ftyp37_0 : ftyp Try.prog 37 0 = some (23, 0) := by kernel_rfl
theorem foff37_1 : foff Try.prog 37 1 = some 12 := by kernel_rfl
theorem ftyp37_1 : ftyp Try.prog 37 1 = some (23, 12) := by kernel_rfl
theorem eqo37 : eqo Try.prog 37 = some (List.replicate 24 (.i .u16)) := by kernel_rfl
theorem szo38 : szo Try.prog 38 = some 24 := by kernel_rfl
theorem aggo38 : aggo Try.prog 38 = some true := by kernel_rfl
theorem zero38 : zeroL Try.prog 38 = some (List.replicate 24 (.v (.int .u16 0))) := by kernel_rfl
theorem bld38 : bld Try.prog 38 = some (.st [(0, 12), (12, 12)]) := by kernel_rfl
theorem foff38_0 : foff Try.prog 38 0 = some 0 := by kernel_rfl
theorem ftyp38_0 : ftyp Try.prog 38 0 = some (23, 0) := by kernel_rfl
theorem foff38_1 : foff Try.prog 38 1 = some 12 := by kernel_rfl
theorem ftyp38_1 : ftyp Try.prog 38 1 = some (23, 12) := by kernel_rfl
theorem eqo38 : eqo Try.prog 38 = some (List.replicate 24 (.i .u16)) := by kernel_rfl
theorem szo39 : szo Try.prog 39 = some 24 := by kernel_rfl
theorem aggo39 : aggo Try.prog 39 = some true := by kernel_rfl
theorem zero39 : zeroL Try.prog 39 = some (List.replicate 24 (.v (.int .u16 0))) := by kernel_rfl
theorem bld39 : bld Try.prog 39 = some (.st [(0, 12), (12, 12)]) := by kernel_rfl
theorem foff39_0 : foff Try.prog 39 0 = some 0 := by kernel_rfl
theorem ftyp39_0 : ftyp Try.prog 39 0 = some (24, 0) := by kernel_rfl
theorem foff39_1 : foff Try.prog 39 1 = some 12 := by kernel_rfl
theorem ftyp39_1 : ftyp Try.prog 39 1 = some (24, 12) := by kernel_rfl
theorem eqo39 : eqo Try.prog 39 = some (List.replicate 24 (.i .u16)) := by kernel_rfl
theorem szo40 : szo Try.prog 40 = some 24 := by kernel_rfl
theorem aggo40 : aggo Try.prog 40 = some true := by kernel_rfl
theorem zero40 : zeroL Try.prog 40 = some (List.replicate 24 (.v (.int .u16 0))) := by kernel_rfl
theorem bld40 : bld Try.prog 40 = some (.st [(0, 12), (12, 12)]) := by kernel_rfl
theorem foff40_0 : foff Try.prog 40 0 = some 0 := by kernel_rfl
theorem ftyp40_0 : ftyp Try.prog 40 0 = some (24, 0) := by kernel_rfl
theorem foff40_1 : foff Try.prog 40 1 = some 12 := by kernel_rfl
theorem ftyp40_1 : ftyp Try.prog 40 1 = some (24, 12) := by kernel_rfl
theorem eqo40 : eqo Try.prog 40 = some (List.replicate 24 (.i .u16)) := by kernel_rfl
theorem szo50 : szo Try.prog 50 = some 1 := by kernel_rfl
theorem aggo50 : aggo Try.prog 50 = some false := by kernel_rfl
theorem zero50 : zeroL Try.prog 50 = some ([.v (.slice none 0 0)]) := by kernel_rfl
theorem rowo50 : rowo Try.prog 50 = some (false, 0, 12) := by kernel_rfl
theorem slo50 : slo Try.prog 50 = some (23, 12, 24) := by kernel_rfl
theorem slTy50 : slTy Try.prog 50 = true := by kernel_rfl
theorem szo52 : szo Try.prog 52 = some 1 := by kernel_rfl
theorem aggo52 : aggo Try.prog 52 = some false := by kernel_rfl
theorem zero52 : zeroL Try.prog 52 = some ([.v (.slice none 0 0)]) := by kernel_rfl
theorem rowo52 : rowo Try.prog 52 = some (false, 0, 12) := by kernel_rfl
theorem slo52 : slo Try.prog 52 = some (24, 12, 24) := by kernel_rfl
theorem slTy52 : slTy Try.prog 52 = true := by kernel_rfl
theorem szo53 : szo Try.prog 53 = some 1 := by kernel_rfl
theorem aggo53 : aggo Try.prog 53 = some false := by kernel_rfl
theorem zero53 : zeroL Try.prog 53 = some ([.v (.slice none 0 0)]) := by kernel_rfl
theorem rowo53 : rowo Try.prog 53 = some (false, 0, 12) := by kernel_rfl
theorem slo53 : slo Try.prog 53 = some (24, 12, 24) := by kernel_rfl
theorem slTy53 : slTy Try.prog 53 = true := by kernel_rfl
theorem szo63 : szo Try.prog 63 = some 1 := by kernel_rfl
theorem aggo63 : aggo Try.prog 63 = some false := by kernel_rfl
theorem zero63 : zeroL Try.prog 63 = some ([.v (.slice none 0 0)]) := by kernel_rfl
theorem rowo63 : rowo Try.prog 63 = some (false, 0, 1) := by kernel_rfl
theorem slo63 : slo Try.prog 63 = some (2, 1, 8) := by kernel_rfl
theorem slTy63 : slTy Try.prog 63 = true := by kernel_rfl
theorem szo77 : szo Try.prog 77 = some 1 := by kernel_rfl
theorem aggo77 : aggo Try.prog 77 = some false := by kernel_rfl
theorem zero77 : zeroL Try.prog 77 = some ([.v (.slice none 0 0)]) := by kernel_rfl
theorem rowo77 : rowo Try.prog 77 = some (false, 0, 1) := by kernel_rfl
theorem slo77 : slo Try.prog 77 = some (5, 1, 1) := by kernel_rfl
theorem slTy77 : slTy Try.prog 77 = true := by kernel_rfl
theorem szo93 : szo Try.prog 93 = some 1 := by kernel_rfl
theorem aggo93 : aggo Try.prog 93 = some false := by kernel_rfl
theorem zero93 : zeroL Try.prog 93 = some ([.v (.int .i8 0)]) := by kernel_rfl
theorem und93 : Try.prog.underlying 93 = some (.int .i8) := by kernel_rfl
theorem szo94 : szo Try.prog 94 = some 27 := by kernel_rfl
theorem aggo94 : aggo Try.prog 94 = some true := by kernel_rfl
theorem zero94 : zeroL Try.prog 94 = some ([.v (.int .u16 0), .v (.int .u16 0), .v (.int .u16 0), .v (.int .u16 0), .v (.int .u16 0), .v (.int .u16 0), .v (.int .u16 0), .v (.int .u16 0), .v (.int .u16 0), .v (.int .u16 0), .v (.int .u16 0), .v (.int .u16 0), .v (.int .u16 0), .v (.int .u16 0), .v (.int .u16 0), .v (.int .u16 0), .v (.int .u16 0), .v (.int .u16 0), .v (.int .u16 0), .v (.int .u16 0), .v (.int .u16 0), .v (.int .u16 0), .v (.int .u16 0), .v (.int .u16 0), .v (.int .i8 0), .v (.int .i8 0), .v (.int .i8 0)]) := by kernel_rfl
theorem bld94 : bld Try.prog 94 = some (.st [(0, 24), (24, 1), (25, 1), (26, 1)]) := by kernel_rfl
theorem foff94_0 : foff Try.prog 94 0 = some 0 := by kernel_rfl
theorem ftyp94_0 : ftyp Try.prog 94 0 = some (40, 0) := by kernel_rfl
theorem foff94_1 : foff Try.prog 94 1 = some 24 := by kernel_rfl
theorem ftyp94_1 : ftyp Try.prog 94 1 = some (93, 24) := by kernel_rfl
theorem foff94_2 : foff Try.prog 94 2 = some 25 := by kernel_rfl
theorem ftyp94_2 : ftyp Try.prog 94 2 = some (93, 25) := by kernel_rfl
theorem foff94_3 : foff Try.prog 94 3 = some 26 := by kernel_rfl
theorem ftyp94_3 : ftyp Try.prog 94 3 = some (93, 26) := by kernel_rfl
theorem eqo94 : eqo Try.prog 94 = some [.i .u16, .i .u16, .i .u16, .i .u16, .i .u16, .i .u16, .i .u16, .i .u16, .i .u16, .i .u16, .i .u16, .i .u16, .i .u16, .i .u16, .i .u16, .i .u16, .i .u16, .i .u16, .i .u16, .i .u16, .i .u16, .i .u16, .i .u16, .i .u16, .i .i8, .i .i8, .i .i8] := by kernel_rfl
theorem szo95 : szo Try.prog 95 = some 27 := by kernel_rfl
theorem aggo95 : aggo Try.prog 95 = some true := by kernel_rfl
theorem zero95 : zeroL Try.prog 95 = some ([.v (.int .u16 0), .v (.int .u16 0), .v (.int .u16 0), .v (.int .u16 0), .v (.int .u16 0), .v (.int .u16 0), .v (.int .u16 0), .v (.int .u16 0), .v (.int .u16 0), .v (.int .u16 0), .v (.int .u16 0), .v (.int .u16 0), .v (.int .u16 0), .v (.int .u16 0), .v (.int .u16 0), .v (.int .u16 0), .v (.int .u16 0), .v (.int .u16 0), .v (.int .u16 0), .v (.int .u16 0), .v (.int .u16 0), .v (.int .u16 0), .v (.int .u16 0), .v (.int .u16 0), .v (.int .i8 0), .v (.int .i8 0), .v (.int .i8 0)]) := by kernel_rfl
theorem bld95 : bld Try.prog 95 = some (.st [(0, 24), (24, 1), (25, 1), (26, 1)]) := by kernel_rfl
theorem foff95_0 : foff Try.prog 95 0 = some 0 := by kernel_rfl
theorem ftyp95_0 : ftyp Try.prog 95 0 = some (40, 0) := by kernel_rfl
theorem foff95_1 : foff Try.prog 95 1 = some 24 := by kernel_rfl
theorem ftyp95_1 : ftyp Try.prog 95 1 = some (93, 24) := by kernel_rfl
theorem foff95_2 : foff Try.prog 95 2 = some 25 := by kernel_rfl
theorem ftyp95_2 : ftyp Try.prog 95 2 = some (93, 25) := by kernel_rfl
theorem foff95_3 : foff Try.prog 95 3 = some 26 := by kernel_rfl
theorem ftyp95_3 : ftyp Try.prog 95 3 = some (93, 26) := by kernel_rfl
theorem eqo95 : eqo Try.prog 95 = some [.i .u16, .i .u16, .i .u16, .i .u16, .i .u16, .i .u16, .i .u16, .i .u16, .i .u16, .i .u16, .i .u16, .i .u16, .i .u16, .i .u16, .i .u16, .i .u16, .i .u16, .i .u16, .i .u16, .i .u16, .i .u16, .i .u16, .i .u16, .i .u16, .i .i8, .i .i8, .i .i8] := by kernel_rfl
theorem szo98 : szo Try.prog 98 = some 27 := by kernel_rfl
theorem aggo98 : aggo Try.prog 98 = some true := by kernel_rfl
theorem zero98 : zeroL Try.prog 98 = some ([.v (.int .u16 0), .v (.int .u16 0), .v (.int .u16 0), .v (.int .u16 0), .v (.int .u16 0), .v (.int .u16 0), .v (.int .u16 0), .v (.int .u16 0), .v (.int .u16 0), .v (.int .u16 0), .v (.int .u16 0), .v (.int .u16 0), .v (.int .u16 0), .v (.int .u16 0), .v (.int .u16 0), .v (.int .u16 0), .v (.int .u16 0), .v (.int .u16 0), .v (.int .u16 0), .v (.int .u16 0), .v (.int .u16 0), .v (.int .u16 0), .v (.int .u16 0), .v (.int .u16 0), .v (.int .i8 0), .v (.int .i8 0), .v (.int .i8 0)]) := by kernel_rfl
theorem bld98 : bld Try.prog 98 = some (.st [(0, 24), (24, 1), (25, 1), (26, 1)]) := by kernel_rfl
theorem foff98_0 : foff Try.prog 98 0 = some 0 := by kernel_rfl
theorem ftyp98_0 : ftyp Try.prog 98 0 = some (38, 0) := by kernel_rfl
theorem foff98_1 : foff Try.prog 98 1 = some 24 := by kernel_rfl
theorem ftyp98_1 : ftyp Try.prog 98 1 = some (93, 24) := by kernel_rfl
theorem foff98_2 : foff Try.prog 98 2 = some 25 := by kernel_rfl
theorem ftyp98_2 : ftyp Try.prog 98 2 = some (93, 25) := by kernel_rfl
theorem foff98_3 : foff Try.prog 98 3 = some 26 := by kernel_rfl
theorem ftyp98_3 : ftyp Try.prog 98 3 = some (93, 26) := by kernel_rfl
theorem eqo98 : eqo Try.prog 98 = some [.i .u16, .i .u16, .i .u16, .i .u16, .i .u16, .i .u16, .i .u16, .i .u16, .i .u16, .i .u16, .i .u16, .i .u16, .i .u16, .i .u16, .i .u16, .i .u16, .i .u16, .i .u16, .i .u16, .i .u16, .i .u16, .i .u16, .i .u16, .i .u16, .i .i8, .i .i8, .i .i8] := by kernel_rfl
theorem szo99 : szo Try.prog 99 = some 27 := by kernel_rfl
theorem aggo99 : aggo Try.prog 99 = some true := by kernel_rfl
theorem zero99 : zeroL Try.prog 99 = some ([.v (.int .u16 0), .v (.int .u16 0), .v (.int .u16 0), .v (.int .u16 0), .v (.int .u16 0), .v (.int .u16 0), .v (.int .u16 0), .v (.int .u16 0), .v (.int .u16 0), .v (.int .u16 0), .v (.int .u16 0), .v (.int .u16 0), .v (.int .u16 0), .v (.int .u16 0), .v (.int .u16 0), .v (.int .u16 0), .v (.int .u16 0), .v (.int .u16 0), .v (.int .u16 0), .v (.int .u16 0), .v (.int .u16 0), .v (.int .u16 0), .v (.int .u16 0), .v (.int .u16 0), .v (.int .i8 0), .v (.int .i8 0), .v (.int .i8 0)]) := by kernel_rfl
theorem bld99 : bld Try.prog 99 = some (.st [(0, 24), (24, 1), (25, 1), (26, 1)]) := by kernel_rfl
theorem foff99_0 : foff Try.prog 99 0 = some 0 := by kernel_rfl
theorem ftyp99_0 : ftyp Try.prog 99 0 = some (38, 0) := by kernel_rfl
theorem foff99_1 : foff Try.prog 99 1 = some 24 := by kernel_rfl
theorem ftyp99_1 : ftyp Try.prog 99 1 = some (93, 24) := by kernel_rfl
theorem foff99_2 : foff Try.prog 99 2 = some 25 := by kernel_rfl
theorem ftyp99_2 : ftyp Try.prog 99 2 = some (93, 25) := by kernel_rfl
theorem foff99_3 : foff Try.prog 99 3 = some 26 := by kernel_rfl
theorem ftyp99_3 : ftyp Try.prog 99 3 = some (93, 26) := by kernel_rfl
theorem eqo99 : eqo Try.prog 99 = some [.i .u16, .i .u16, .i .u16, .i .u16, .i .u16, .i .u16, .i .u16, .i .u16, .i .u16, .i .u16, .i .u16, .i .u16, .i .u16, .i .u16, .i .u16, .i .u16, .i .u16, .i .u16, .i .u16, .i .u16, .i .u16, .i .u16, .i .u16, .i .u16, .i .i8, .i .i8, .i .i8] := by kernel_rfl
theorem szo102 : szo Try.prog 102 = some 1 := by kernel_rfl
theorem aggo102 : aggo Try.prog 102 = some false := by kernel_rfl
theorem zero102 : zeroL Try.prog 102 = some ([.v (.pointer none)]) := by kernel_rfl
theorem szo104 : szo Try.prog 104 = some 1 := by kernel_rfl
theorem aggo104 : aggo Try.prog 104 = some false := by kernel_rfl
theorem zero104 : zeroL Try.prog 104 = some ([.v (.pointer none)]) := by kernel_rfl
theorem szo132 : szo Try.prog 132 = some 2 := by kernel_rfl
theorem aggo132 : aggo Try.prog 132 = some true := by kernel_rfl
theorem zero132 : zeroL Try.prog 132 = some ([.v (.int .i8 0), .v (.int .i8 0)]) := by kernel_rfl
theorem bld132 : bld Try.prog 132 = some (.st [(0, 1), (1, 1)]) := by kernel_rfl
theorem foff132_0 : foff Try.prog 132 0 = some 0 := by kernel_rfl
theorem ftyp132_0 : ftyp Try.prog 132 0 = some (93, 0) := by kernel_rfl
theorem foff132_1 : foff Try.prog 132 1 = some 1 := by kernel_rfl
theorem ftyp132_1 : ftyp Try.prog 132 1 = some (93, 1) := by kernel_rfl
theorem eqo132 : eqo Try.prog 132 = some [.i .i8, .i .i8] := by kernel_rfl
theorem szo133 : szo Try.prog 133 = some 2 := by kernel_rfl
theorem aggo133 : aggo Try.prog 133 = some true := by kernel_rfl
theorem zero133 : zeroL Try.prog 133 = some ([.v (.int .i8 0), .v (.int .i8 0)]) := by kernel_rfl
theorem bld133 : bld Try.prog 133 = some (.st [(0, 1), (1, 1)]) := by kernel_rfl
theorem foff133_0 : foff Try.prog 133 0 = some 0 := by kernel_rfl
theorem ftyp133_0 : ftyp Try.prog 133 0 = some (93, 0) := by kernel_rfl
theorem foff133_1 : foff Try.prog 133 1 = some 1 := by kernel_rfl
theorem ftyp133_1 : ftyp Try.prog 133 1 = some (93, 1) := by kernel_rfl
theorem eqo133 : eqo Try.prog 133 = some [.i .i8, .i .i8] := by kernel_rfl
theorem szo134 : szo Try.prog 134 = some 1 := by kernel_rfl
theorem aggo134 : aggo Try.prog 134 = some false := by kernel_rfl
theorem zero134 : zeroL Try.prog 134 = some ([.v (.slice none 0 0)]) := by kernel_rfl
theorem rowo134 : rowo Try.prog 134 = some (false, 0, 2) := by kernel_rfl
theorem slo134 : slo Try.prog 134 = some (133, 2, 2) := by kernel_rfl
theorem slTy134 : slTy Try.prog 134 = true := by kernel_rfl
theorem szo139 : szo Try.prog 139 = some 1 := by kernel_rfl
theorem aggo139 : aggo Try.prog 139 = some false := by kernel_rfl
theorem zero139 : zeroL Try.prog 139 = some ([.v (.pointer none)]) := by kernel_rfl
theorem szo142 : szo Try.prog 142 = some 1 := by kernel_rfl
theorem aggo142 : aggo Try.prog 142 = some false := by kernel_rfl
theorem zero142 : zeroL Try.prog 142 = some ([.v (.pointer none)]) := by kernel_rfl
theorem szo147 : szo Try.prog 147 = some 1 := by kernel_rfl
theorem aggo147 : aggo Try.prog 147 = some false := by kernel_rfl
theorem zero147 : zeroL Try.prog 147 = some ([.v (.int .u64 0)]) := by kernel_rfl
theorem und147 : Try.prog.underlying 147 = some (.int .u64) := by kernel_rfl
theorem szo162 : szo Try.prog 162 = some 2 := by kernel_rfl
theorem aggo162 : aggo Try.prog 162 = some true := by kernel_rfl
theorem zero162 : zeroL Try.prog 162 = some ([.v (.slice none 0 0), .v (.slice none 0 0)]) := by kernel_rfl
theorem rowo162 : rowo Try.prog 162 = some (true, 2, 1) := by kernel_rfl
theorem etyp162 : etyp Try.prog 162 = some (2, 53, 1) := by kernel_rfl
theorem bld162 : bld Try.prog 162 = some (.ar 1) := by kernel_rfl
theorem szo165 : szo Try.prog 165 = some 1 := by kernel_rfl
theorem aggo165 : aggo Try.prog 165 = some false := by kernel_rfl
theorem zero165 : zeroL Try.prog 165 = some ([.v (.slice none 0 0)]) := by kernel_rfl
theorem rowo165 : rowo Try.prog 165 = some (false, 0, 1) := by kernel_rfl
theorem slo165 : slo Try.prog 165 = some (22, 1, 2) := by kernel_rfl
theorem slTy165 : slTy Try.prog 165 = true := by kernel_rfl
theorem szo171 : szo Try.prog 171 = some 1 := by kernel_rfl
theorem aggo171 : aggo Try.prog 171 = some false := by kernel_rfl
theorem zero171 : zeroL Try.prog 171 = some ([.v (.int .u64 0)]) := by kernel_rfl
theorem und171 : Try.prog.underlying 171 = some (.int .u64) := by kernel_rfl
theorem szo172 : szo Try.prog 172 = some 3 := by kernel_rfl
theorem aggo172 : aggo Try.prog 172 = some true := by kernel_rfl
theorem zero172 : zeroL Try.prog 172 = some ([.v (.slice none 0 0), .v (.int .i64 0), .v (.int .u64 0)]) := by kernel_rfl
theorem bld172 : bld Try.prog 172 = some (.st [(0, 1), (1, 1), (2, 1)]) := by kernel_rfl
theorem foff172_0 : foff Try.prog 172 0 = some 0 := by kernel_rfl
theorem ftyp172_0 : ftyp Try.prog 172 0 = some (77, 0) := by kernel_rfl
theorem foff172_1 : foff Try.prog 172 1 = some 1 := by kernel_rfl
theorem ftyp172_1 : ftyp Try.prog 172 1 = some (3, 1) := by kernel_rfl
theorem foff172_2 : foff Try.prog 172 2 = some 2 := by kernel_rfl
theorem ftyp172_2 : ftyp Try.prog 172 2 = some (171, 2) := by kernel_rfl
theorem szo173 : szo Try.prog 173 = some 3 := by kernel_rfl
theorem aggo173 : aggo Try.prog 173 = some true := by kernel_rfl
theorem zero173 : zeroL Try.prog 173 = some ([.v (.slice none 0 0), .v (.int .i64 0), .v (.int .u64 0)]) := by kernel_rfl
theorem bld173 : bld Try.prog 173 = some (.st [(0, 1), (1, 1), (2, 1)]) := by kernel_rfl
theorem foff173_0 : foff Try.prog 173 0 = some 0 := by kernel_rfl
theorem ftyp173_0 : ftyp Try.prog 173 0 = some (77, 0) := by kernel_rfl
theorem foff173_1 : foff Try.prog 173 1 = some 1 := by kernel_rfl
theorem ftyp173_1 : ftyp Try.prog 173 1 = some (3, 1) := by kernel_rfl
theorem foff173_2 : foff Try.prog 173 2 = some 2 := by kernel_rfl
theorem ftyp173_2 : ftyp Try.prog 173 2 = some (171, 2) := by kernel_rfl
theorem szo183 : szo Try.prog 183 = some 4 := by kernel_rfl
theorem aggo183 : aggo Try.prog 183 = some true := by kernel_rfl
theorem zero183 : zeroL Try.prog 183 = some ([.v (.pointer none), .v (.pointer none), .v (.pointer none), .v (.string ByteArray.empty)]) := by kernel_rfl
theorem bld183 : bld Try.prog 183 = some (.st [(0, 1), (1, 1), (2, 1), (3, 1)]) := by kernel_rfl
theorem foff183_0 : foff Try.prog 183 0 = some 0 := by kernel_rfl
theorem ftyp183_0 : ftyp Try.prog 183 0 = some (17, 0) := by kernel_rfl
theorem foff183_1 : foff Try.prog 183 1 = some 1 := by kernel_rfl
theorem ftyp183_1 : ftyp Try.prog 183 1 = some (17, 1) := by kernel_rfl
theorem foff183_2 : foff Try.prog 183 2 = some 2 := by kernel_rfl
theorem ftyp183_2 : ftyp Try.prog 183 2 = some (17, 2) := by kernel_rfl
theorem foff183_3 : foff Try.prog 183 3 = some 3 := by kernel_rfl
theorem ftyp183_3 : ftyp Try.prog 183 3 = some (9, 3) := by kernel_rfl
theorem szo184 : szo Try.prog 184 = some 4 := by kernel_rfl
theorem aggo184 : aggo Try.prog 184 = some true := by kernel_rfl
theorem zero184 : zeroL Try.prog 184 = some ([.v (.pointer none), .v (.pointer none), .v (.pointer none), .v (.string ByteArray.empty)]) := by kernel_rfl
theorem bld184 : bld Try.prog 184 = some (.st [(0, 1), (1, 1), (2, 1), (3, 1)]) := by kernel_rfl
theorem foff184_0 : foff Try.prog 184 0 = some 0 := by kernel_rfl
theorem ftyp184_0 : ftyp Try.prog 184 0 = some (17, 0) := by kernel_rfl
theorem foff184_1 : foff Try.prog 184 1 = some 1 := by kernel_rfl
theorem ftyp184_1 : ftyp Try.prog 184 1 = some (17, 1) := by kernel_rfl
theorem foff184_2 : foff Try.prog 184 2 = some 2 := by kernel_rfl
theorem ftyp184_2 : ftyp Try.prog 184 2 = some (17, 2) := by kernel_rfl
theorem foff184_3 : foff Try.prog 184 3 = some 3 := by kernel_rfl
theorem ftyp184_3 : ftyp Try.prog 184 3 = some (9, 3) := by kernel_rfl
theorem szo185 : szo Try.prog 185 = some 0 := by kernel_rfl
theorem aggo185 : aggo Try.prog 185 = some true := by kernel_rfl
theorem zero185 : zeroL Try.prog 185 = some ([]) := by kernel_rfl
theorem rowo185 : rowo Try.prog 185 = some (true, 0, 1) := by kernel_rfl
theorem etyp185 : etyp Try.prog 185 = some (0, 16, 1) := by kernel_rfl
theorem bld185 : bld Try.prog 185 = some (.ar 1) := by kernel_rfl
theorem szo186 : szo Try.prog 186 = some 0 := by kernel_rfl
theorem aggo186 : aggo Try.prog 186 = some true := by kernel_rfl
theorem zero186 : zeroL Try.prog 186 = some ([]) := by kernel_rfl
theorem bld186 : bld Try.prog 186 = some (.st [(0, 0)]) := by kernel_rfl
theorem ftyp186_0 : ftyp Try.prog 186 0 = some (185, 0) := by kernel_rfl
theorem szo187 : szo Try.prog 187 = some 0 := by kernel_rfl
theorem aggo187 : aggo Try.prog 187 = some true := by kernel_rfl
theorem zero187 : zeroL Try.prog 187 = some ([]) := by kernel_rfl
theorem bld187 : bld Try.prog 187 = some (.st [(0, 0)]) := by kernel_rfl
theorem ftyp187_0 : ftyp Try.prog 187 0 = some (185, 0) := by kernel_rfl
theorem szo189 : szo Try.prog 189 = some 1 := by kernel_rfl
theorem aggo189 : aggo Try.prog 189 = some false := by kernel_rfl
theorem zero189 : zeroL Try.prog 189 = some ([.v (.int .u32 0)]) := by kernel_rfl
theorem und189 : Try.prog.underlying 189 = some (.int .u32) := by kernel_rfl
theorem szo190 : szo Try.prog 190 = some 1 := by kernel_rfl
theorem aggo190 : aggo Try.prog 190 = some false := by kernel_rfl
theorem zero190 : zeroL Try.prog 190 = some ([.v (.int .u8 0)]) := by kernel_rfl
theorem und190 : Try.prog.underlying 190 = some (.int .u8) := by kernel_rfl
theorem szo191 : szo Try.prog 191 = some 1 := by kernel_rfl
theorem aggo191 : aggo Try.prog 191 = some false := by kernel_rfl
theorem zero191 : zeroL Try.prog 191 = some ([.v (.int .u8 0)]) := by kernel_rfl
theorem und191 : Try.prog.underlying 191 = some (.int .u8) := by kernel_rfl
theorem szo193 : szo Try.prog 193 = some 1 := by kernel_rfl
theorem aggo193 : aggo Try.prog 193 = some false := by kernel_rfl
theorem zero193 : zeroL Try.prog 193 = some ([.v (.pointer none)]) := by kernel_rfl
theorem szo194 : szo Try.prog 194 = some 1 := by kernel_rfl
theorem aggo194 : aggo Try.prog 194 = some false := by kernel_rfl
theorem zero194 : zeroL Try.prog 194 = some ([.v (.int .i32 0)]) := by kernel_rfl
theorem und194 : Try.prog.underlying 194 = some (.int .i32) := by kernel_rfl
theorem szo195 : szo Try.prog 195 = some 1 := by kernel_rfl
theorem aggo195 : aggo Try.prog 195 = some false := by kernel_rfl
theorem zero195 : zeroL Try.prog 195 = some ([.v (.int .i32 0)]) := by kernel_rfl
theorem und195 : Try.prog.underlying 195 = some (.int .i32) := by kernel_rfl
theorem szo196 : szo Try.prog 196 = some 11 := by kernel_rfl
theorem aggo196 : aggo Try.prog 196 = some true := by kernel_rfl
theorem zero196 : zeroL Try.prog 196 = some ([.v (.int .u64 0), .v (.int .u64 0), .v (.int .u32 0), .v (.int .u8 0), .v (.int .u8 0), .v (.int .u8 0), .v (.int .u8 0), .v .nilFunc, .v (.pointer none), .v (.int .i32 0), .v (.int .i32 0)]) := by kernel_rfl
theorem foff196_0 : foff Try.prog 196 0 = some 0 := by kernel_rfl
theorem ftyp196_0 : ftyp Try.prog 196 0 = some (12, 0) := by kernel_rfl
theorem foff196_1 : foff Try.prog 196 1 = some 1 := by kernel_rfl
theorem ftyp196_1 : ftyp Try.prog 196 1 = some (12, 1) := by kernel_rfl
theorem foff196_2 : foff Try.prog 196 2 = some 2 := by kernel_rfl
theorem ftyp196_2 : ftyp Try.prog 196 2 = some (189, 2) := by kernel_rfl
theorem foff196_3 : foff Try.prog 196 3 = some 3 := by kernel_rfl
theorem ftyp196_3 : ftyp Try.prog 196 3 = some (190, 3) := by kernel_rfl
theorem foff196_4 : foff Try.prog 196 4 = some 4 := by kernel_rfl
theorem ftyp196_4 : ftyp Try.prog 196 4 = some (5, 4) := by kernel_rfl
theorem foff196_5 : foff Try.prog 196 5 = some 5 := by kernel_rfl
theorem ftyp196_5 : ftyp Try.prog 196 5 = some (5, 5) := by kernel_rfl
theorem foff196_6 : foff Try.prog 196 6 = some 6 := by kernel_rfl
theorem ftyp196_6 : ftyp Try.prog 196 6 = some (191, 6) := by kernel_rfl
theorem foff196_8 : foff Try.prog 196 8 = some 8 := by kernel_rfl
theorem ftyp196_8 : ftyp Try.prog 196 8 = some (193, 8) := by kernel_rfl
theorem foff196_9 : foff Try.prog 196 9 = some 9 := by kernel_rfl
theorem ftyp196_9 : ftyp Try.prog 196 9 = some (194, 9) := by kernel_rfl
theorem foff196_10 : foff Try.prog 196 10 = some 10 := by kernel_rfl
theorem ftyp196_10 : ftyp Try.prog 196 10 = some (195, 10) := by kernel_rfl
theorem szo197 : szo Try.prog 197 = some 11 := by kernel_rfl
theorem aggo197 : aggo Try.prog 197 = some true := by kernel_rfl
theorem zero197 : zeroL Try.prog 197 = some ([.v (.int .u64 0), .v (.int .u64 0), .v (.int .u32 0), .v (.int .u8 0), .v (.int .u8 0), .v (.int .u8 0), .v (.int .u8 0), .v .nilFunc, .v (.pointer none), .v (.int .i32 0), .v (.int .i32 0)]) := by kernel_rfl
theorem foff197_0 : foff Try.prog 197 0 = some 0 := by kernel_rfl
theorem ftyp197_0 : ftyp Try.prog 197 0 = some (12, 0) := by kernel_rfl
theorem foff197_1 : foff Try.prog 197 1 = some 1 := by kernel_rfl
theorem ftyp197_1 : ftyp Try.prog 197 1 = some (12, 1) := by kernel_rfl
theorem foff197_2 : foff Try.prog 197 2 = some 2 := by kernel_rfl
theorem ftyp197_2 : ftyp Try.prog 197 2 = some (189, 2) := by kernel_rfl
theorem foff197_3 : foff Try.prog 197 3 = some 3 := by kernel_rfl
theorem ftyp197_3 : ftyp Try.prog 197 3 = some (190, 3) := by kernel_rfl
theorem foff197_4 : foff Try.prog 197 4 = some 4 := by kernel_rfl
theorem ftyp197_4 : ftyp Try.prog 197 4 = some (5, 4) := by kernel_rfl
theorem foff197_5 : foff Try.prog 197 5 = some 5 := by kernel_rfl
theorem ftyp197_5 : ftyp Try.prog 197 5 = some (5, 5) := by kernel_rfl
theorem foff197_6 : foff Try.prog 197 6 = some 6 := by kernel_rfl
theorem ftyp197_6 : ftyp Try.prog 197 6 = some (191, 6) := by kernel_rfl
theorem foff197_8 : foff Try.prog 197 8 = some 8 := by kernel_rfl
theorem ftyp197_8 : ftyp Try.prog 197 8 = some (193, 8) := by kernel_rfl
theorem foff197_9 : foff Try.prog 197 9 = some 9 := by kernel_rfl
theorem ftyp197_9 : ftyp Try.prog 197 9 = some (194, 9) := by kernel_rfl
theorem foff197_10 : foff Try.prog 197 10 = some 10 := by kernel_rfl
theorem ftyp197_10 : ftyp Try.prog 197 10 = some (195, 10) := by kernel_rfl
attribute [go_sem] szo2 aggo2 zero2 und2 szo3 aggo3 zero3 und3 szo4 aggo4 zero4 und4 szo5 aggo5 zero5 und5 szo6 aggo6 zero6 und6 szo7 aggo7 zero7 bld7 foff7_0 ftyp7_0 foff7_1 ftyp7_1 foff7_2 ftyp7_2 foff7_3 ftyp7_3 eqo7 szo8 aggo8 zero8 bld8 foff8_0 ftyp8_0 foff8_1 ftyp8_1 foff8_2 ftyp8_2 foff8_3 ftyp8_3 eqo8 szo9 aggo9 zero9 und9 szo10 aggo10 zero10 und10 szo11 aggo11 zero11 und11 szo12 aggo12 zero12 und12 szo13 aggo13 zero13 bld13 foff13_0 ftyp13_0 foff13_1 ftyp13_1 szo14 aggo14 zero14 bld14 foff14_0 ftyp14_0 foff14_1 ftyp14_1 szo15 aggo15 zero15 szo16 aggo16 zero16 szo17 aggo17 zero17 szo18 aggo18 zero18 bld18 foff18_0 ftyp18_0 szo19 aggo19 zero19 bld19 foff19_0 ftyp19_0 szo21 aggo21 zero21 und21 szo22 aggo22 zero22 und22 szo23 aggo23 zero23 rowo23 etyp23 bld23 eqo23 szo24 aggo24 zero24 rowo24 etyp24 bld24 eqo24 szo30 aggo30 zero30 rowo30 slo30 slTy30 szo33 aggo33 zero33 rowo33 slo33 slTy33 szo34 aggo34 zero34 rowo34 slo34 slTy34 szo37 aggo37 zero37 bld37 foff37_0 ftyp37_0 foff37_1 ftyp37_1 eqo37 szo38 aggo38 zero38 bld38 foff38_0 ftyp38_0 foff38_1 ftyp38_1 eqo38 szo39 aggo39 zero39 bld39 foff39_0 ftyp39_0 foff39_1 ftyp39_1 eqo39 szo40 aggo40 zero40 bld40 foff40_0 ftyp40_0 foff40_1 ftyp40_1 eqo40 szo50 aggo50 zero50 rowo50 slo50 slTy50 szo52 aggo52 zero52 rowo52 slo52 slTy52 szo53 aggo53 zero53 rowo53 slo53 slTy53 szo63 aggo63 zero63 rowo63 slo63 slTy63 szo77 aggo77 zero77 rowo77 slo77 slTy77 szo93 aggo93 zero93 und93 szo94 aggo94 zero94 bld94 foff94_0 ftyp94_0 foff94_1 ftyp94_1 foff94_2 ftyp94_2 foff94_3 ftyp94_3 eqo94 szo95 aggo95 zero95 bld95 foff95_0 ftyp95_0 foff95_1 ftyp95_1 foff95_2 ftyp95_2 foff95_3 ftyp95_3 eqo95 szo98 aggo98 zero98 bld98 foff98_0 ftyp98_0 foff98_1 ftyp98_1 foff98_2 ftyp98_2 foff98_3 ftyp98_3 eqo98 szo99 aggo99 zero99 bld99 foff99_0 ftyp99_0 foff99_1 ftyp99_1 foff99_2 ftyp99_2 foff99_3 ftyp99_3 eqo99 szo102 aggo102 zero102 szo104 aggo104 zero104 szo132 aggo132 zero132 bld132 foff132_0 ftyp132_0 foff132_1 ftyp132_1 eqo132 szo133 aggo133 zero133 bld133 foff133_0 ftyp133_0 foff133_1 ftyp133_1 eqo133 szo134 aggo134 zero134 rowo134 slo134 slTy134 szo139 aggo139 zero139 szo142 aggo142 zero142 szo147 aggo147 zero147 und147 szo162 aggo162 zero162 rowo162 etyp162 bld162 szo165 aggo165 zero165 rowo165 slo165 slTy165 szo171 aggo171 zero171 und171 szo172 aggo172 zero172 bld172 foff172_0 ftyp172_0 foff172_1 ftyp172_1 foff172_2 ftyp172_2 szo173 aggo173 zero173 bld173 foff173_0 ftyp173_0 foff173_1 ftyp173_1 foff173_2 ftyp173_2 szo183 aggo183 zero183 bld183 foff183_0 ftyp183_0 foff183_1 ftyp183_1 foff183_2 ftyp183_2 foff183_3 ftyp183_3 szo184 aggo184 zero184 bld184 foff184_0 ftyp184_0 foff184_1 ftyp184_1 foff184_2 ftyp184_2 foff184_3 ftyp184_3 szo185 aggo185 zero185 rowo185 etyp185 bld185 szo186 aggo186 zero186 bld186 ftyp186_0 szo187 aggo187 zero187 bld187 ftyp187_0 szo189 aggo189 zero189 und189 szo190 aggo190 zero190 und190 szo191 aggo191 zero191 und191 szo193 aggo193 zero193 szo194 aggo194 zero194 und194 szo195 aggo195 zero195 und195 szo196 aggo196 zero196 foff196_0 ftyp196_0 foff196_1 ftyp196_1 foff196_2 ftyp196_2 foff196_3 ftyp196_3 foff196_4 ftyp196_4 foff196_5 ftyp196_5 foff196_6 ftyp196_6 foff196_8 ftyp196_8 foff196_9 ftyp196_9 foff196_10 ftyp196_10 szo197 aggo197 zero197 foff197_0 ftyp197_0 foff197_1 ftyp197_1 foff197_2 ftyp197_2 foff197_3 ftyp197_3 foff197_4 ftyp197_4 foff197_5 ftyp197_5 foff197_6 ftyp197_6 foff197_8 ftyp197_8 foff197_9 ftyp197_9 foff197_10 ftyp197_10
theorem mixed : Try.prog.follows .mixedOrders = true := by kernel_rfl
end Go.Proofs.Ytpginknbmmdmoaa

