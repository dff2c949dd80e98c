/- What the types of the translated program are, as the walk asks for it. -/
import Derived.KernelRfl
import Derived.Test.YtheeehjgmifclaaProg
import Derived.Test.YtheeehjgmifclaaLC
set_option linter.unusedVariables false
set_option linter.unusedSimpArgs false
set_option maxRecDepth 8000
set_option maxHeartbeats 4000000
namespace Go.Proofs.Ytheeehjgmifclaa
open Go Go.Sx
theorem szo2 : szo Try.prog 2 = some 1 := by kernel_rfl
theorem aggo2 : aggo Try.prog 2 = some false := by kernel_rfl
theorem zero2 : zeroL Try.prog 2 = some ([.v (.int .i64 0)]) := by kernel_rfl
theorem und2 : Try.prog.underlying 2 = some (.int .i64) := by kernel_rfl
theorem szo3 : szo Try.prog 3 = some 1 := by kernel_rfl
theorem aggo3 : aggo Try.prog 3 = some false := by kernel_rfl
theorem zero3 : zeroL Try.prog 3 = some ([.v (.int .i64 0)]) := by kernel_rfl
theorem und3 : Try.prog.underlying 3 = some (.int .i64) := by kernel_rfl
theorem szo4 : szo Try.prog 4 = some 1 := by kernel_rfl
theorem aggo4 : aggo Try.prog 4 = some false := by kernel_rfl
theorem zero4 : zeroL Try.prog 4 = some ([.v (.bool false)]) := by kernel_rfl
theorem und4 : Try.prog.underlying 4 = some .bool := by kernel_rfl
theorem szo5 : szo Try.prog 5 = some 1 := by kernel_rfl
theorem aggo5 : aggo Try.prog 5 = some false := by kernel_rfl
theorem zero5 : zeroL Try.prog 5 = some ([.v (.int .u8 0)]) := by kernel_rfl
theorem und5 : Try.prog.underlying 5 = some (.int .u8) := by kernel_rfl
theorem szo6 : szo Try.prog 6 = some 1 := by kernel_rfl
theorem aggo6 : aggo Try.prog 6 = some false := by kernel_rfl
theorem zero6 : zeroL Try.prog 6 = some ([.v (.int .u8 0)]) := by kernel_rfl
theorem und6 : Try.prog.underlying 6 = some (.int .u8) := by kernel_rfl
theorem szo7 : szo Try.prog 7 = some 4 := by kernel_rfl
theorem aggo7 : aggo Try.prog 7 = some true := by kernel_rfl
theorem zero7 : zeroL Try.prog 7 = some ([.v (.int .i64 0), .v (.int .i64 0), .v (.bool false), .v (.int .u8 0)]) := by kernel_rfl
theorem bld7 : bld Try.prog 7 = some (.st [(0, 1), (1, 1), (2, 1), (3, 1)]) := by kernel_rfl
theorem foff7_0 : foff Try.prog 7 0 = some 0 := by kernel_rfl
theorem ftyp7_0 : ftyp Try.prog 7 0 = some (2, 0) := by kernel_rfl
theorem foff7_1 : foff Try.prog 7 1 = some 1 := by kernel_rfl
theorem ftyp7_1 : ftyp Try.prog 7 1 = some (3, 1) := by kernel_rfl
theorem foff7_2 : foff Try.prog 7 2 = some 2 := by kernel_rfl
theorem ftyp7_2 : ftyp Try.prog 7 2 = some (4, 2) := by kernel_rfl
theorem foff7_3 : foff Try.prog 7 3 = some 3 := by kernel_rfl
theorem ftyp7_3 : ftyp Try.prog 7 3 = some (6, 3) := by kernel_rfl
theorem eqo7 : eqo Try.prog 7 = some [.i .i64, .i .i64, .b, .i .u8] := by kernel_rfl
theorem szo8 : szo Try.prog 8 = some 4 := by kernel_rfl
theorem aggo8 : aggo Try.prog 8 = some true := by kernel_rfl
theorem zero8 : zeroL Try.prog 8 = some ([.v (.int .i64 0), .v (.int .i64 0), .v (.bool false), .v (.int .u8 0)]) := by kernel_rfl
theorem bld8 : bld Try.prog 8 = some (.st [(0, 1), (1, 1), (2, 1), (3, 1)]) := by kernel_rfl
theorem foff8_0 : foff Try.prog 8 0 = some 0 := by kernel_rfl
theorem ftyp8_0 : ftyp Try.prog 8 0 = some (2, 0) := by kernel_rfl
theorem foff8_1 : foff Try.prog 8 1 = some 1 := by kernel_rfl
theorem ftyp8_1 : ftyp Try.prog 8 1 = some (3, 1) := by kernel_rfl
theorem foff8_2 : foff Try.prog 8 2 = some 2 := by kernel_rfl
theorem ftyp8_2 : ftyp Try.prog 8 2 = some (4, 2) := by kernel_rfl
theorem foff8_3 : foff Try.prog 8 3 = some 3 := by kernel_rfl
theorem ftyp8_3 : ftyp Try.prog 8 3 = some (6, 3) := by kernel_rfl
theorem eqo8 : eqo Try.prog 8 = some [.i .i64, .i .i64, .b, .i .u8] := by kernel_rfl
theorem szo9 : szo Try.prog 9 = some 1 := by kernel_rfl
theorem aggo9 : aggo Try.prog 9 = some false := by kernel_rfl
theorem zero9 : zeroL Try.prog 9 = some ([.v (.string ByteArray.empty)]) := by kernel_rfl
theorem und9 : Try.prog.underlying 9 = some .string := by kernel_rfl
theorem szo10 : szo Try.prog 10 = some 1 := by kernel_rfl
theorem aggo10 : aggo Try.prog 10 = some false := by kernel_rfl
theorem zero10 : zeroL Try.prog 10 = some ([.v (.string ByteArray.empty)]) := by kernel_rfl
theorem und10 : Try.prog.underlying 10 = some .string := by kernel_rfl
theorem szo11 : szo Try.prog 11 = some 1 := by kernel_rfl
theorem aggo11 : aggo Try.prog 11 = some false := by kernel_rfl
theorem zero11 : zeroL Try.prog 11 = some ([.v (.string ByteArray.empty)]) := by kernel_rfl
theorem und11 : Try.prog.underlying 11 = some .string := by kernel_rfl
theorem szo12 : szo Try.prog 12 = some 1 := by kernel_rfl
theorem aggo12 : aggo Try.prog 12 = some false := by kernel_rfl
theorem zero12 : zeroL Try.prog 12 = some ([.v (.int .u64 0)]) := by kernel_rfl
theorem und12 : Try.prog.underlying 12 = some (.int .u64) := by kernel_rfl
theorem szo13 : szo Try.prog 13 = some 2 := by kernel_rfl
theorem aggo13 : aggo Try.prog 13 = some true := by kernel_rfl
theorem zero13 : zeroL Try.prog 13 = some ([.v (.string ByteArray.empty), .v (.int .u64 0)]) := by kernel_rfl
theorem bld13 : bld Try.prog 13 = some (.st [(0, 1), (1, 1)]) := by kernel_rfl
theorem foff13_0 : foff Try.prog 13 0 = some 0 := by kernel_rfl
theorem ftyp13_0 : ftyp Try.prog 13 0 = some (9, 0) := by kernel_rfl
theorem foff13_1 : foff Try.prog 13 1 = some 1 := by kernel_rfl
theorem ftyp13_1 : ftyp Try.prog 13 1 = some (12, 1) := by kernel_rfl
theorem szo14 : szo Try.prog 14 = some 2 := by kernel_rfl
theorem aggo14 : aggo Try.prog 14 = some true := by kernel_rfl
theorem zero14 : zeroL Try.prog 14 = some ([.v (.string ByteArray.empty), .v (.int .u64 0)]) := by kernel_rfl
theorem bld14 : bld Try.prog 14 = some (.st [(0, 1), (1, 1)]) := by kernel_rfl
theorem foff14_0 : foff Try.prog 14 0 = some 0 := by kernel_rfl
theorem ftyp14_0 : ftyp Try.prog 14 0 = some (9, 0) := by kernel_rfl
theorem foff14_1 : foff Try.prog 14 1 = some 1 := by kernel_rfl
theorem ftyp14_1 : ftyp Try.prog 14 1 = some (12, 1) := by kernel_rfl
theorem szo15 : szo Try.prog 15 = some 1 := by kernel_rfl
theorem aggo15 : aggo Try.prog 15 = some false := by kernel_rfl
theorem zero15 : zeroL Try.prog 15 = some ([.v (.pointer none)]) := by kernel_rfl
theorem szo16 : szo Try.prog 16 = some 1 := by kernel_rfl
theorem aggo16 : aggo Try.prog 16 = some false := by kernel_rfl
theorem zero16 : zeroL Try.prog 16 = some ([.v (.pointer none)]) := by kernel_rfl
theorem szo17 : szo Try.prog 17 = some 1 := by kernel_rfl
theorem aggo17 : aggo Try.prog 17 = some false := by kernel_rfl
theorem zero17 : zeroL Try.prog 17 = some ([.v (.pointer none)]) := by kernel_rfl
theorem szo18 : szo Try.prog 18 = some 1 := by kernel_rfl
theorem aggo18 : aggo Try.prog 18 = some true := by kernel_rfl
theorem zero18 : zeroL Try.prog 18 = some ([.v (.pointer none)]) := by kernel_rfl
theorem bld18 : bld Try.prog 18 = some (.st [(0, 1)]) := by kernel_rfl
theorem foff18_0 : foff Try.prog 18 0 = some 0 := by kernel_rfl
theorem ftyp18_0 : ftyp Try.prog 18 0 = some (17, 0) := by kernel_rfl
theorem szo19 : szo Try.prog 19 = some 1 := by kernel_rfl
theorem aggo19 : aggo Try.prog 19 = some true := by kernel_rfl
theorem zero19 : zeroL Try.prog 19 = some ([.v (.pointer none)]) := by kernel_rfl
theorem bld19 : bld Try.prog 19 = some (.st [(0, 1)]) := by kernel_rfl
theorem foff19_0 : foff Try.prog 19 0 = some 0 := by kernel_rfl
theorem ftyp19_0 : ftyp Try.prog 19 0 = some (17, 0) := by kernel_rfl
theorem szo21 : szo Try.prog 21 = some 1 := by kernel_rfl
theorem aggo21 : aggo Try.prog 21 = some false := by kernel_rfl
theorem zero21 : zeroL Try.prog 21 = some ([.v (.int .i32 0)]) := by kernel_rfl
theorem und21 : Try.prog.underlying 21 = some (.int .i32) := by kernel_rfl
theorem szo22 : szo Try.prog 22 = some 1 := by kernel_rfl
theorem aggo22 : aggo Try.prog 22 = some false := by kernel_rfl
theorem zero22 : zeroL Try.prog 22 = some ([.v (.slice none 0 0)]) := by kernel_rfl
theorem rowo22 : rowo Try.prog 22 = some (false, 0, 27) := by kernel_rfl
theorem slo22 : slo Try.prog 22 = some (38, 27, 52) := by kernel_rfl
theorem slTy22 : slTy Try.prog 22 = true := by kernel_rfl
theorem szo24 : szo Try.prog 24 = some 1 := by kernel_rfl
theorem aggo24 : aggo Try.prog 24 = some false := by kernel_rfl
theorem zero24 : zeroL Try.prog 24 = some ([.v (.slice none 0 0)]) := by kernel_rfl
theorem rowo24 : rowo Try.prog 24 = some (false, 0, 27) := by kernel_rfl
theorem slo24 : slo Try.prog 24 = some (44, 27, 52) := by kernel_rfl
theorem slTy24 : slTy Try.prog 24 = true := by kernel_rfl
theorem szo25 : szo Try.prog 25 = some 1 := by kernel_rfl
theorem aggo25 : aggo Try.prog 25 = some false := by kernel_rfl
theorem zero25 : zeroL Try.prog 25 = some ([.v (.slice none 0 0)]) := by kernel_rfl
theorem rowo25 : rowo Try.prog 25 = some (false, 0, 27) := by kernel_rfl
theorem slo25 : slo Try.prog 25 = some (44, 27, 52) := by kernel_rfl
theorem slTy25 : slTy Try.prog 25 = true := by kernel_rfl
theorem szo32 : szo Try.prog 32 = some 1 := by kernel_rfl
theorem aggo32 : aggo Try.prog 32 = some false := by kernel_rfl
theorem zero32 : zeroL Try.prog 32 = some ([.v (.int .u16 0)]) := by kernel_rfl
theorem und32 : Try.prog.underlying 32 = some (.int .u16) := by kernel_rfl
theorem szo33 : szo Try.prog 33 = some 12 := by kernel_rfl
theorem aggo33 : aggo Try.prog 33 = some true := by kernel_rfl
theorem zero33 : zeroL Try.prog 33 = some (List.replicate 12 (.v (.int .u16 0))) := by kernel_rfl
theorem rowo33 : rowo Try.prog 33 = some (true, 12, 1) := by kernel_rfl
theorem etyp33 : etyp Try.prog 33 = some (12, 32, 1) := by kernel_rfl
theorem bld33 : bld Try.prog 33 = some (.ar 1) := by kernel_rfl
theorem eqo33 : eqo Try.prog 33 = some (List.replicate 12 (.i .u16)) := by kernel_rfl
theorem szo34 : szo Try.prog 34 = some 24 := by kernel_rfl
theorem aggo34 : aggo Try.prog 34 = some true := by kernel_rfl
theorem zero34 : zeroL Try.prog 34 = some (List.replicate 24 (.v (.int .u16 0))) := by kernel_rfl
theorem bld34 : bld Try.prog 34 = some (.st [(0, 12), (12, 12)]) := by kernel_rfl
theorem foff34_0 : foff Try.prog 34 0 = some 0 := by kernel_rfl
theorem ftyp34_0 : ftyp Try.prog 34 0 = some (33, 0) := by kernel_rfl
theorem foff34_1 : foff Try.prog 34 1 = some 12 := by kernel_rfl
theorem ftyp34_1 : ftyp Try.prog 34 1 = some (33, 12) := by kernel_rfl
theorem eqo34 : eqo Try.prog 34 = some (List.replicate 24 (.i .u16)) := by kernel_rfl
theorem szo35 : szo Try.prog 35 = some 24 := by kernel_rfl
theorem aggo35 : aggo Try.prog 35 = some true := by kernel_rfl
theorem zero35 : zeroL Try.prog 35 = some (List.replicate 24 (.v (.int .u16 0))) := by kernel_rfl
theorem bld35 : bld Try.prog 35 = some (.st [(0, 12), (12, 12)]) := by kernel_rfl
theorem foff35_0 : foff Try.prog 35 0 = some 0 := by kernel_rfl
theorem ftyp35_0 : ftyp Try.prog 35 0 = some (33, 0) := by kernel_rfl
theorem foff35_1 : foff Try.prog 35 1 = some 12 := by kernel_rfl
theorem ftyp35_1 : ftyp Try.prog 35 1 = some (33, 12) := by kernel_rfl
theorem eqo35 : eqo Try.prog 35 = some (List.replicate 24 (.i .u16)) := by kernel_rfl
theorem szo36 : szo Try.prog 36 = some 1 := by kernel_rfl
theorem aggo36 : aggo Try.prog 36 = some false := by kernel_rfl
theorem zero36 : zeroL Try.prog 36 = some ([.v (.int .i8 0)]) := by kernel_rfl
theorem und36 : Try.prog.underlying 36 = some (.int .i8) := by kernel_rfl
theorem szo37 : szo Try.prog 37 = some 27 := by kernel_rfl
theorem aggo37 : aggo Try.prog 37 = some true := by kernel_rfl
theorem zero37 : zeroL Try.prog 37 = some ([.v (.int .u16 0), .v (.int .u16 0), .v (.int .u16 0), .v (.int .u16 0), .v (.int .u16 0), .v (.int .u16 0), .v (.int .u16 0), .v (.int .u16 0), .v (.int .u16 0), .v (.int .u16 0), .v (.int .u16 0), .v (.int .u16 0), .v (.int .u16 0), .v (.int .u16 0), .v (.int .u16 0), .v (.int .u16 0), .v (.int .u16 0), .v (.int .u16 0), .v (.int .u16 0), .v (.int .u16 0), .v (.int .u16 0), .v (.int .u16 0), .v (.int .u16 0), .v (.int .u16 0), .v (.int .i8 0), .v (.int .i8 0), .v (.int .i8 0)]) := by kernel_rfl
theorem bld37 : bld Try.prog 37 = some (.st [(0, 24), (24, 1), (25, 1), (26, 1)]) := by kernel_rfl
theorem foff37_0 : foff Try.prog 37 0 = some 0 := by kernel_rfl
theorem ftyp37_0 : ftyp Try.prog 37 0 = some (35, 0) := by kernel_rfl
theorem foff37_1 : foff Try.prog 37 1 = some 24 := by kernel_rfl
theorem ftyp37_1 : ftyp Try.prog 37 1 = some (36, 24) := by kernel_rfl
theorem foff37_2 : foff Try.prog 37 2 = some 25 := by kernel_rfl
theorem ftyp37_2 : ftyp Try.prog 37 2 = some (36, 25) := by kernel_rfl
theorem foff37_3 : foff Try.prog 37 3 = some 26 := by kernel_rfl
theorem ftyp37_3 : ftyp Try.prog 37 3 = some (36, 26) := by kernel_rfl
theorem eqo37 : eqo Try.prog 37 = some [.i .u16, .i .u16, .i .u16, .i .u16, .i .u16, .i .u16, .i .u16, .i .u16, .i .u16, .i .u16, .i .u16, .i .u16, .i .u16, .i .u16, .i .u16, .i .u16, .i .u16, .i .u16, .i .u16, .i .u16, .i .u16, .i .u16, .i .u16, .i .u16, .i .i8, .i .i8, .i .i8] := by kernel_rfl
theorem szo38 : szo Try.prog 38 = some 27 := by kernel_rfl
theorem aggo38 : aggo Try.prog 38 = some true := by kernel_rfl
theorem zero38 : zeroL Try.prog 38 = some ([.v (.int .u16 0), .v (.int .u16 0), .v (.int .u16 0), .v (.int .u16 0), .v (.int .u16 0), .v (.int .u16 0), .v (.int .u16 0), .v (.int .u16 0), .v (.int .u16 0), .v (.int .u16 0), .v (.int .u16 0), .v (.int .u16 0), .v (.int .u16 0), .v (.int .u16 0), .v (.int .u16 0), .v (.int .u16 0), .v (.int .u16 0), .v (.int .u16 0), .v (.int .u16 0), .v (.int .u16 0), .v (.int .u16 0), .v (.int .u16 0), .v (.int .u16 0), .v (.int .u16 0), .v (.int .i8 0), .v (.int .i8 0), .v (.int .i8 0)]) := by kernel_rfl
theorem bld38 : bld Try.prog 38 = some (.st [(0, 24), (24, 1), (25, 1), (26, 1)]) := by kernel_rfl
theorem foff38_0 : foff Try.prog 38 0 = some 0 := by kernel_rfl
theorem ftyp38_0 : ftyp Try.prog 38 0 = some (35, 0) := by kernel_rfl
theorem foff38_1 : foff Try.prog 38 1 = some 24 := by kernel_rfl
theorem ftyp38_1 : ftyp Try.prog 38 1 = some (36, 24) := by kernel_rfl
theorem foff38_2 : foff Try.prog 38 2 = some 25 := by kernel_rfl
theorem ftyp38_2 : ftyp Try.prog 38 2 = some (36, 25) := by kernel_rfl
theorem foff38_3 : foff Try.prog 38 3 = some 26 := by kernel_rfl
theorem ftyp38_3 : ftyp Try.prog 38 3 = some (36, 26) := by kernel_rfl
theorem eqo38 : eqo Try.prog 38 = some [.i .u16, .i .u16, .i .u16, .i .u16, .i .u16, .i .u16, .i .u16, .i .u16, .i .u16, .i .u16, .i .u16, .i .u16, .i .u16, .i .u16, .i .u16, .i .u16, .i .u16, .i .u16, .i .u16, .i .u16, .i .u16, .i .u16, .i .u16, .i .u16, .i .i8, .i .i8, .i .i8] := by kernel_rfl
theorem szo40 : szo Try.prog 40 = some 12 := by kernel_rfl
theorem aggo40 : aggo Try.prog 40 = some true := by kernel_rfl
theorem zero40 : zeroL Try.prog 40 = some (List.replicate 12 (.v (.int .u16 0))) := by kernel_rfl
theorem rowo40 : rowo Try.prog 40 = some (true, 12, 1) := by kernel_rfl
theorem etyp40 : etyp Try.prog 40 = some (12, 32, 1) := by kernel_rfl
theorem bld40 : bld Try.prog 40 = some (.ar 1) := by kernel_rfl
theorem eqo40 : eqo Try.prog 40 = some (List.replicate 12 (.i .u16)) := by kernel_rfl
theorem szo41 : szo Try.prog 41 = some 24 := by kernel_rfl
theorem aggo41 : aggo Try.prog 41 = some true := by kernel_rfl
theorem zero41 : zeroL Try.prog 41 = some (List.replicate 24 (.v (.int .u16 0))) := by kernel_rfl
theorem bld41 : bld Try.prog 41 = some (.st [(0, 12), (12, 12)]) := by kernel_rfl
theorem foff41_0 : foff Try.prog 41 0 = some 0 := by kernel_rfl
theorem ftyp41_0 : ftyp Try.prog 41 0 = some (40, 0) := by kernel_rfl
theorem foff41_1 : foff Try.prog 41 1 = some 12 := by kernel_rfl
theorem ftyp41_1 : ftyp Try.prog 41 1 = some (40, 12) := by kernel_rfl
theorem eqo41 : eqo Try.prog 41 = some (List.replicate 24 (.i .u16)) := by kernel_rfl
theorem szo42 : szo Try.prog 42 = some 24 := by kernel_rfl
theorem aggo42 : aggo Try.prog 42 = some true := by kernel_rfl
theorem zero42 : zeroL Try.prog 42 = some (List.replicate 24 (.v (.int .u16 0))) := by kernel_rfl
theorem bld42 : bld Try.prog 42 = some (.st [(0, 12), (12, 12)]) := by kernel_rfl
theorem foff42_0 : foff Try.prog 42 0 = some 0 := by kernel_rfl
theorem ftyp42_0 : ftyp Try.prog 42 0 = some (40, 0) := by kernel_rfl
theorem foff42_1 : foff Try.prog 42 1 = some 12 := by kernel_rfl
theorem ftyp42_1 : ftyp Try.prog 42 1 = some (40, 12) := by kernel_rfl
theorem eqo42 : eqo Try.prog 42 = some (List.replicate 24 (.i .u16)) := by kernel_rfl
theorem szo43 : szo Try.prog 43 = some 27 := by kernel_rfl
theorem aggo43 : aggo Try.prog 43 = some true := by kernel_rfl
theorem zero43 : zeroL Try.prog 43 = some ([.v (.int .u16 0), .v (.int .u16 0), .v (.int .u16 0), .v (.int .u16 0), .v (.int .u16 0), .v (.int .u16 0), .v (.int .u16 0), .v (.int .u16 0), .v (.int .u16 0), .v (.int .u16 0), .v (.int .u16 0), .v (.int .u16 0), .v (.int .u16 0), .v (.int .u16 0), .v (.int .u16 0), .v (.int .u16 0), .v (.int .u16 0), .v (.int .u16 0), .v (.int .u16 0), .v (.int .u16 0), .v (.int .u16 0), .v (.int .u16 0), .v (.int .u16 0), .v (.int .u16 0), .v (.int .i8 0), .v (.int .i8 0), .v (.int .i8 0)]) := by kernel_rfl
theorem bld43 : bld Try.prog 43 = some (.st [(0, 24), (24, 1), (25, 1), (26, 1)]) := by kernel_rfl
theorem foff43_0 : foff Try.prog 43 0 = some 0 := by kernel_rfl
theorem ftyp43_0 : ftyp Try.prog 43 0 = some (42, 0) := by kernel_rfl
theorem foff43_1 : foff Try.prog 43 1 = some 24 := by kernel_rfl
theorem ftyp43_1 : ftyp Try.prog 43 1 = some (36, 24) := by kernel_rfl
theorem foff43_2 : foff Try.prog 43 2 = some 25 := by kernel_rfl
theorem ftyp43_2 : ftyp Try.prog 43 2 = some (36, 25) := by kernel_rfl
theorem foff43_3 : foff Try.prog 43 3 = some 26 := by kernel_rfl
theorem ftyp43_3 : ftyp Try.prog 43 3 = some (36, 26) := by kernel_rfl
theorem eqo43 : eqo Try.prog 43 = some [.i .u16, .i .u16, .i .u16, .i .u16, .i .u16, .i .u16, .i .u16, .i .u16, .i .u16, .i .u16, .i .u16, .i .u16, .i .u16, .i .u16, .i .u16, .i .u16, .i .u16, .i .u16, .i .u16, .i .u16, .i .u16, .i .u16, .i .u16, .i .u16, .i .i8, .i .i8, .i .i8] := by kernel_rfl
theorem szo44 : szo Try.prog 44 = some 27 := by kernel_rfl
theorem aggo44 : aggo Try.prog 44 = some true := by kernel_rfl
theorem zero44 : zeroL Try.prog 44 = some ([.v (.int .u16 0), .v (.int .u16 0), .v (.int .u16 0), .v (.int .u16 0), .v (.int .u16 0), .v (.int .u16 0), .v (.int .u16 0), .v (.int .u16 0), .v (.int .u16 0), .v (.int .u16 0), .v (.int .u16 0), .v (.int .u16 0), .v (.int .u16 0), .v (.int .u16 0), .v (.int .u16 0), .v (.int .u16 0), .v (.int .u16 0), .v (.int .u16 0), .v (.int .u16 0), .v (.int .u16 0), .v (.int .u16 0), .v (.int .u16 0), .v (.int .u16 0), .v (.int .u16 0), .v (.int .i8 0), .v (.int .i8 0), .v (.int .i8 0)]) := by kernel_rfl
theorem bld44 : bld Try.prog 44 = some (.st [(0, 24), (24, 1), (25, 1), (26, 1)]) := by kernel_rfl
theorem foff44_0 : foff Try.prog 44 0 = some 0 := by kernel_rfl
theorem ftyp44_0 : ftyp Try.prog 44 0 = some (42, 0) := by kernel_rfl
theorem foff44_1 : foff Try.prog 44 1 = some 24 := by kernel_rfl
theorem ftyp44_1 : ftyp Try.prog 44 1 = some (36, 24) := by kernel_rfl
theorem foff44_2 : foff Try.prog 44 2 = some 25 := by kernel_rfl
theorem ftyp44_2 : ftyp Try.prog 44 2 = some (36, 25) := by kernel_rfl
theorem foff44_3 : foff Try.prog 44 3 = some 26 := by kernel_rfl
theorem ftyp44_3 : ftyp Try.prog 44 3 = some (36, 26) := by kernel_rfl
theorem eqo44 : eqo Try.prog 44 = some [.i .u16, .i .u16, .i .u16, .i .u16, .i .u16, .i .u16, .i .u16, .i .u16, .i .u16, .i .u16, .i .u16, .i .u16, .i .u16, .i .u16, .i .u16, .i .u16, .i .u16, .i .u16, .i .u16, .i .u16, .i .u16, .i .u16, .i .u16, .i .u16, .i .i8, .i .i8, .i .i8] := by kernel_rfl
theorem szo60 : szo Try.prog 60 = some 1 := by kernel_rfl
theorem aggo60 : aggo Try.prog 60 = some false := by kernel_rfl
theorem zero60 : zeroL Try.prog 60 = some ([.v (.slice none 0 0)]) := by kernel_rfl
theorem rowo60 : rowo Try.prog 60 = some (false, 0, 1) := by kernel_rfl
theorem slo60 : slo Try.prog 60 = some (2, 1, 8) := by kernel_rfl
theorem slTy60 : slTy Try.prog 60 = true := by kernel_rfl
theorem szo65 : szo Try.prog 65 = some 1 := by kernel_rfl
theorem aggo65 : aggo Try.prog 65 = some false := by kernel_rfl
theorem zero65 : zeroL Try.prog 65 = some ([.v (.slice none 0 0)]) := by kernel_rfl
theorem rowo65 : rowo Try.prog 65 = some (false, 0, 1) := by kernel_rfl
theorem slo65 : slo Try.prog 65 = some (5, 1, 1) := by kernel_rfl
theorem slTy65 : slTy Try.prog 65 = true := by kernel_rfl
theorem szo88 : szo Try.prog 88 = some 1 := by kernel_rfl
theorem aggo88 : aggo Try.prog 88 = some false := by kernel_rfl
theorem zero88 : zeroL Try.prog 88 = some ([.v (.pointer none)]) := by kernel_rfl
theorem szo98 : szo Try.prog 98 = some 1 := by kernel_rfl
theorem aggo98 : aggo Try.prog 98 = some false := by kernel_rfl
theorem zero98 : zeroL Try.prog 98 = some ([.v (.slice none 0 0)]) := by kernel_rfl
theorem rowo98 : rowo Try.prog 98 = some (false, 0, 12) := by kernel_rfl
theorem slo98 : slo Try.prog 98 = some (40, 12, 24) := by kernel_rfl
theorem slTy98 : slTy Try.prog 98 = true := by kernel_rfl
theorem szo101 : szo Try.prog 101 = some 1 := by kernel_rfl
theorem aggo101 : aggo Try.prog 101 = some false := by kernel_rfl
theorem zero101 : zeroL Try.prog 101 = some ([.v (.pointer none)]) := by kernel_rfl
theorem szo108 : szo Try.prog 108 = some 1 := by kernel_rfl
theorem aggo108 : aggo Try.prog 108 = some false := by kernel_rfl
theorem zero108 : zeroL Try.prog 108 = some ([.v (.pointer none)]) := by kernel_rfl
theorem szo115 : szo Try.prog 115 = some 1 := by kernel_rfl
theorem aggo115 : aggo Try.prog 115 = some false := by kernel_rfl
theorem zero115 : zeroL Try.prog 115 = some ([.v (.pointer none)]) := by kernel_rfl
theorem szo122 : szo Try.prog 122 = some 1 := by kernel_rfl
theorem aggo122 : aggo Try.prog 122 = some false := by kernel_rfl
theorem zero122 : zeroL Try.prog 122 = some ([.v (.slice none 0 0)]) := by kernel_rfl
theorem rowo122 : rowo Try.prog 122 = some (false, 0, 1) := by kernel_rfl
theorem slo122 : slo Try.prog 122 = some (9, 1, 16) := by kernel_rfl
theorem slTy122 : slTy Try.prog 122 = true := by kernel_rfl
theorem szo127 : szo Try.prog 127 = some 1 := by kernel_rfl
theorem aggo127 : aggo Try.prog 127 = some false := by kernel_rfl
theorem zero127 : zeroL Try.prog 127 = some ([.v (.slice none 0 0)]) := by kernel_rfl
theorem rowo127 : rowo Try.prog 127 = some (false, 0, 1) := by kernel_rfl
theorem slo127 : slo Try.prog 127 = some (25, 1, 24) := by kernel_rfl
theorem slTy127 : slTy Try.prog 127 = true := by kernel_rfl
theorem szo133 : szo Try.prog 133 = some 1 := by kernel_rfl
theorem aggo133 : aggo Try.prog 133 = some false := by kernel_rfl
theorem zero133 : zeroL Try.prog 133 = some ([.v (.int .u64 0)]) := by kernel_rfl
theorem und133 : Try.prog.underlying 133 = some (.int .u64) := by kernel_rfl
theorem szo134 : szo Try.prog 134 = some 1 := by kernel_rfl
theorem aggo134 : aggo Try.prog 134 = some false := by kernel_rfl
theorem zero134 : zeroL Try.prog 134 = some ([.v (.slice none 0 0)]) := by kernel_rfl
theorem rowo134 : rowo Try.prog 134 = some (false, 0, 2) := by kernel_rfl
theorem slo134 : slo Try.prog 134 = some (148, 2, 2) := by kernel_rfl
theorem slTy134 : slTy Try.prog 134 = true := by kernel_rfl
theorem szo139 : szo Try.prog 139 = some 1 := by kernel_rfl
theorem aggo139 : aggo Try.prog 139 = some false := by kernel_rfl
theorem zero139 : zeroL Try.prog 139 = some ([.v (.int .u64 0)]) := by kernel_rfl
theorem und139 : Try.prog.underlying 139 = some (.int .u64) := by kernel_rfl
theorem szo140 : szo Try.prog 140 = some 3 := by kernel_rfl
theorem aggo140 : aggo Try.prog 140 = some true := by kernel_rfl
theorem zero140 : zeroL Try.prog 140 = some ([.v (.slice none 0 0), .v (.int .i64 0), .v (.int .u64 0)]) := by kernel_rfl
theorem bld140 : bld Try.prog 140 = some (.st [(0, 1), (1, 1), (2, 1)]) := by kernel_rfl
theorem foff140_0 : foff Try.prog 140 0 = some 0 := by kernel_rfl
theorem ftyp140_0 : ftyp Try.prog 140 0 = some (65, 0) := by kernel_rfl
theorem foff140_1 : foff Try.prog 140 1 = some 1 := by kernel_rfl
theorem ftyp140_1 : ftyp Try.prog 140 1 = some (3, 1) := by kernel_rfl
theorem foff140_2 : foff Try.prog 140 2 = some 2 := by kernel_rfl
theorem ftyp140_2 : ftyp Try.prog 140 2 = some (139, 2) := by kernel_rfl
theorem szo141 : szo Try.prog 141 = some 3 := by kernel_rfl
theorem aggo141 : aggo Try.prog 141 = some true := by kernel_rfl
theorem zero141 : zeroL Try.prog 141 = some ([.v (.slice none 0 0), .v (.int .i64 0), .v (.int .u64 0)]) := by kernel_rfl
theorem bld141 : bld Try.prog 141 = some (.st [(0, 1), (1, 1), (2, 1)]) := by kernel_rfl
theorem foff141_0 : foff Try.prog 141 0 = some 0 := by kernel_rfl
theorem ftyp141_0 : ftyp Try.prog 141 0 = some (65, 0) := by kernel_rfl
theorem foff141_1 : foff Try.prog 141 1 = some 1 := by kernel_rfl
theorem ftyp141_1 : ftyp Try.prog 141 1 = some (3, 1) := by kernel_rfl
theorem foff141_2 : foff Try.prog 141 2 = some 2 := by kernel_rfl
theorem ftyp141_2 : ftyp Try.prog 141 2 = some (139, 2) := by kernel_rfl
theorem szo147 : szo Try.prog 147 = some 2 := by kernel_rfl
theorem aggo147 : aggo Try.prog 147 = some true := by kernel_rfl
theorem zero147 : zeroL Try.prog 147 = some ([.v (.int .i8 0), .v (.int .i8 0)]) := by kernel_rfl
theorem bld147 : bld Try.prog 147 = some (.st [(0, 1), (1, 1)]) := by kernel_rfl
theorem foff147_0 : foff Try.prog 147 0 = some 0 := by kernel_rfl
theorem ftyp147_0 : ftyp Try.prog 147 0 = some (36, 0) := by kernel_rfl
theorem foff147_1 : foff Try.prog 147 1 = some 1 := by kernel_rfl
theorem ftyp147_1 : ftyp Try.prog 147 1 = some (36, 1) := by kernel_rfl
theorem eqo147 : eqo Try.prog 147 = some [.i .i8, .i .i8] := by kernel_rfl
theorem szo148 : szo Try.prog 148 = some 2 := by kernel_rfl
theorem aggo148 : aggo Try.prog 148 = some true := by kernel_rfl
theorem zero148 : zeroL Try.prog 148 = some ([.v (.int .i8 0), .v (.int .i8 0)]) := by kernel_rfl
theorem bld148 : bld Try.prog 148 = some (.st [(0, 1), (1, 1)]) := by kernel_rfl
theorem foff148_0 : foff Try.prog 148 0 = some 0 := by kernel_rfl
theorem ftyp148_0 : ftyp Try.prog 148 0 = some (36, 0) := by kernel_rfl
theorem foff148_1 : foff Try.prog 148 1 = some 1 := by kernel_rfl
theorem ftyp148_1 : ftyp Try.prog 148 1 = some (36, 1) := by kernel_rfl
theorem eqo148 : eqo Try.prog 148 = some [.i .i8, .i .i8] := by kernel_rfl
theorem szo154 : szo Try.prog 154 = some 1 := by kernel_rfl
theorem aggo154 : aggo Try.prog 154 = some false := by kernel_rfl
theorem zero154 : zeroL Try.prog 154 = some ([.v (.pointer none)]) := by kernel_rfl
theorem szo155 : szo Try.prog 155 = some 2 := by kernel_rfl
theorem aggo155 : aggo Try.prog 155 = some true := by kernel_rfl
theorem zero155 : zeroL Try.prog 155 = some ([.v (.pointer none), .v (.slice none 0 0)]) := by kernel_rfl
theorem bld155 : bld Try.prog 155 = some (.st [(0, 1), (1, 1)]) := by kernel_rfl
theorem foff155_0 : foff Try.prog 155 0 = some 0 := by kernel_rfl
theorem ftyp155_0 : ftyp Try.prog 155 0 = some (154, 0) := by kernel_rfl
theorem foff155_1 : foff Try.prog 155 1 = some 1 := by kernel_rfl
theorem ftyp155_1 : ftyp Try.prog 155 1 = some (65, 1) := by kernel_rfl
theorem szo156 : szo Try.prog 156 = some 2 := by kernel_rfl
theorem aggo156 : aggo Try.prog 156 = some true := by kernel_rfl
theorem zero156 : zeroL Try.prog 156 = some ([.v (.pointer none), .v (.slice none 0 0)]) := by kernel_rfl
theorem bld156 : bld Try.prog 156 = some (.st [(0, 1), (1, 1)]) := by kernel_rfl
theorem foff156_0 : foff Try.prog 156 0 = some 0 := by kernel_rfl
theorem ftyp156_0 : ftyp Try.prog 156 0 = some (154, 0) := by kernel_rfl
theorem foff156_1 : foff Try.prog 156 1 = some 1 := by kernel_rfl
theorem ftyp156_1 : ftyp Try.prog 156 1 = some (65, 1) := by kernel_rfl
theorem szo162 : szo Try.prog 162 = some 1 := by kernel_rfl
theorem aggo162 : aggo Try.prog 162 = some false := by kernel_rfl
theorem zero162 : zeroL Try.prog 162 = some ([.v (.slice none 0 0)]) := by kernel_rfl
theorem rowo162 : rowo Try.prog 162 = some (false, 0, 1) := by kernel_rfl
theorem slo162 : slo Try.prog 162 = some (32, 1, 2) := by kernel_rfl
theorem slTy162 : slTy Try.prog 162 = true := by kernel_rfl
theorem szo164 : szo Try.prog 164 = some 1 := by kernel_rfl
theorem aggo164 : aggo Try.prog 164 = some false := by kernel_rfl
theorem zero164 : zeroL Try.prog 164 = some ([.v (.pointer none)]) := by kernel_rfl
theorem szo168 : szo Try.prog 168 = some 4 := by kernel_rfl
theorem aggo168 : aggo Try.prog 168 = some true := by kernel_rfl
theorem zero168 : zeroL Try.prog 168 = some ([.v (.pointer none), .v (.pointer none), .v (.pointer none), .v (.string ByteArray.empty)]) := by kernel_rfl
theorem bld168 : bld Try.prog 168 = some (.st [(0, 1), (1, 1), (2, 1), (3, 1)]) := by kernel_rfl
theorem foff168_0 : foff Try.prog 168 0 = some 0 := by kernel_rfl
theorem ftyp168_0 : ftyp Try.prog 168 0 = some (17, 0) := by kernel_rfl
theorem foff168_1 : foff Try.prog 168 1 = some 1 := by kernel_rfl
theorem ftyp168_1 : ftyp Try.prog 168 1 = some (17, 1) := by kernel_rfl
theorem foff168_2 : foff Try.prog 168 2 = some 2 := by kernel_rfl
theorem ftyp168_2 : ftyp Try.prog 168 2 = some (17, 2) := by kernel_rfl
theorem foff168_3 : foff Try.prog 168 3 = some 3 := by kernel_rfl
theorem ftyp168_3 : ftyp Try.prog 168 3 = some (9, 3) := by kernel_rfl
theorem szo169 : szo Try.prog 169 = some 4 := by kernel_rfl
theorem aggo169 : aggo Try.prog 169 = some true := by kernel_rfl
theorem zero169 : zeroL Try.prog 169 = some ([.v (.pointer none), .v (.pointer none), .v (.pointer none), .v (.string ByteArray.empty)]) := by kernel_rfl
theorem bld169 : bld Try.prog 169 = some (.st [(0, 1), (1, 1), (2, 1), (3, 1)]) := by kernel_rfl
theorem foff169_0 : foff Try.prog 169 0 = some 0 := by kernel_rfl
theorem ftyp169_0 : ftyp Try.prog 169 0 = some (17, 0) := by kernel_rfl
theorem foff169_1 : foff Try.prog 169 1 = some 1 := by kernel_rfl
theorem ftyp169_1 : ftyp Try.prog 169 1 = some (17, 1) := by kernel_rfl
theorem foff169_2 : foff Try.prog 169 2 = some 2 := by kernel_rfl
theorem ftyp169_2 : ftyp Try.prog 169 2 = some (17, 2) := by kernel_rfl
theorem foff169_3 : foff Try.prog 169 3 = some 3 := by kernel_rfl
theorem ftyp169_3 : ftyp Try.prog 169 3 = some (9, 3) := by kernel_rfl
theorem szo170 : szo Try.prog 170 = some 0 := by kernel_rfl
theorem aggo170 : aggo Try.prog 170 = some true := by kernel_rfl
theorem zero170 : zeroL Try.prog 170 = some ([]) := by kernel_rfl
theorem rowo170 : rowo Try.prog 170 = some (true, 0, 1) := by kernel_rfl
theorem etyp170 : etyp Try.prog 170 = some (0, 16, 1) := by kernel_rfl
theorem bld170 : bld Try.prog 170 = some (.ar 1) := by kernel_rfl
theorem szo171 : szo Try.prog 171 = some 0 := by kernel_rfl
theorem aggo171 : aggo Try.prog 171 = some true := by kernel_rfl
theorem zero171 : zeroL Try.prog 171 = some ([]) := by kernel_rfl
theorem bld171 : bld Try.prog 171 = some (.st [(0, 0)]) := by kernel_rfl
theorem ftyp171_0 : ftyp Try.prog 171 0 = some (170, 0) := by kernel_rfl
theorem szo172 : szo Try.prog 172 = some 0 := by kernel_rfl
theorem aggo172 : aggo Try.prog 172 = some true := by kernel_rfl
theorem zero172 : zeroL Try.prog 172 = some ([]) := by kernel_rfl
theorem bld172 : bld Try.prog 172 = some (.st [(0, 0)]) := by kernel_rfl
theorem ftyp172_0 : ftyp Try.prog 172 0 = some (170, 0) := by kernel_rfl
theorem szo174 : szo Try.prog 174 = some 1 := by kernel_rfl
theorem aggo174 : aggo Try.prog 174 = some false := by kernel_rfl
theorem zero174 : zeroL Try.prog 174 = some ([.v (.int .u32 0)]) := by kernel_rfl
theorem und174 : Try.prog.underlying 174 = some (.int .u32) := by kernel_rfl
theorem szo175 : szo Try.prog 175 = some 1 := by kernel_rfl
theorem aggo175 : aggo Try.prog 175 = some false := by kernel_rfl
theorem zero175 : zeroL Try.prog 175 = some ([.v (.int .u8 0)]) := by kernel_rfl
theorem und175 : Try.prog.underlying 175 = some (.int .u8) := by kernel_rfl
theorem szo176 : szo Try.prog 176 = some 1 := by kernel_rfl
theorem aggo176 : aggo Try.prog 176 = some false := by kernel_rfl
theorem zero176 : zeroL Try.prog 176 = some ([.v (.int .u8 0)]) := by kernel_rfl
theorem und176 : Try.prog.underlying 176 = some (.int .u8) := by kernel_rfl
theorem szo178 : szo Try.prog 178 = some 1 := by kernel_rfl
theorem aggo178 : aggo Try.prog 178 = some false := by kernel_rfl
theorem zero178 : zeroL Try.prog 178 = some ([.v (.int .i32 0)]) := by kernel_rfl
theorem und178 : Try.prog.underlying 178 = some (.int .i32) := by kernel_rfl
theorem szo179 : szo Try.prog 179 = some 1 := by kernel_rfl
theorem aggo179 : aggo Try.prog 179 = some false := by kernel_rfl
theorem zero179 : zeroL Try.prog 179 = some ([.v (.int .i32 0)]) := by kernel_rfl
theorem und179 : Try.prog.underlying 179 = some (.int .i32) := by kernel_rfl
theorem szo180 : szo Try.prog 180 = some 11 := by kernel_rfl
theorem aggo180 : aggo Try.prog 180 = some true := by kernel_rfl
theorem zero180 : zeroL Try.prog 180 = some ([.v (.int .u64 0), .v (.int .u64 0), .v (.int .u32 0), .v (.int .u8 0), .v (.int .u8 0), .v (.int .u8 0), .v (.int .u8 0), .v .nilFunc, .v (.pointer none), .v (.int .i32 0), .v (.int .i32 0)]) := by kernel_rfl
theorem foff180_0 : foff Try.prog 180 0 = some 0 := by kernel_rfl
theorem ftyp180_0 : ftyp Try.prog 180 0 = some (12, 0) := by kernel_rfl
theorem foff180_1 : foff Try.prog 180 1 = some 1 := by kernel_rfl
theorem ftyp180_1 : ftyp Try.prog 180 1 = some (12, 1) := by kernel_rfl
theorem foff180_2 : foff Try.prog 180 2 = some 2 := by kernel_rfl
theorem ftyp180_2 : ftyp Try.prog 180 2 = some (174, 2) := by kernel_rfl
theorem foff180_3 : foff Try.prog 180 3 = some 3 := by kernel_rfl
theorem ftyp180_3 : ftyp Try.prog 180 3 = some (175, 3) := by kernel_rfl
theorem foff180_4 : foff Try.prog 180 4 = some 4 := by kernel_rfl
theorem ftyp180_4 : ftyp Try.prog 180 4 = some (5, 4) := by kernel_rfl
theorem foff180_5 : foff Try.prog 180 5 = some 5 := by kernel_rfl
theorem ftyp180_5 : ftyp Try.prog 180 5 = some (5, 5) := by kernel_rfl
theorem foff180_6 : foff Try.prog 180 6 = some 6 := by kernel_rfl
theorem ftyp180_6 : ftyp Try.prog 180 6 = some (176, 6) := by kernel_rfl
theorem foff180_8 : foff Try.prog 180 8 = some 8 := by kernel_rfl
theorem ftyp180_8 : ftyp Try.prog 180 8 = some (164, 8) := by kernel_rfl
theorem foff180_9 : foff Try.prog 180 9 = some 9 := by kernel_rfl
theorem ftyp180_9 : ftyp Try.prog 180 9 = some (178, 9) := by kernel_rfl
theorem foff180_10 : foff Try.prog 180 10 = some 10 := by kernel_rfl
theorem ftyp180_10 : ftyp Try.prog 180 10 = some (179, 10) := by kernel_rfl
theorem szo181 : szo Try.prog 181 = some 11 := by kernel_rfl
theorem aggo181 : aggo Try.prog 181 = some true := by kernel_rfl
theorem zero181 : zeroL Try.prog 181 = some ([.v (.int .u64 0), .v (.int .u64 0), .v (.int .u32 0), .v (.int .u8 0), .v (.int .u8 0), .v (.int .u8 0), .v (.int .u8 0), .v .nilFunc, .v (.pointer none), .v (.int .i32 0), .v (.int .i32 0)]) := by kernel_rfl
theorem foff181_0 : foff Try.prog 181 0 = some 0 := by kernel_rfl
theorem ftyp181_0 : ftyp Try.prog 181 0 = some (12, 0) := by kernel_rfl
theorem foff181_1 : foff Try.prog 181 1 = some 1 := by kernel_rfl
theorem ftyp181_1 : ftyp Try.prog 181 1 = some (12, 1) := by kernel_rfl
theorem foff181_2 : foff Try.prog 181 2 = some 2 := by kernel_rfl
theorem ftyp181_2 : ftyp Try.prog 181 2 = some (174, 2) := by kernel_rfl
theorem foff181_3 : foff Try.prog 181 3 = some 3 := by kernel_rfl
theorem ftyp181_3 : ftyp Try.prog 181 3 = some (175, 3) := by kernel_rfl
theorem foff181_4 : foff Try.prog 181 4 = some 4 := by kernel_rfl
theorem ftyp181_4 : ftyp Try.prog 181 4 = some (5, 4) := by kernel_rfl
theorem foff181_5 : foff Try.prog 181 5 = some 5 := by kernel_rfl
theorem ftyp181_5 : ftyp Try.prog 181 5 = some (5, 5) := by kernel_rfl
theorem foff181_6 : foff Try.prog 181 6 = some 6 := by kernel_rfl
theorem ftyp181_6 : ftyp Try.prog 181 6 = some (176, 6) := by kernel_rfl
theorem foff181_8 : foff Try.prog 181 8 = some 8 := by kernel_rfl
theorem ftyp181_8 : ftyp Try.prog 181 8 = some (164, 8) := by kernel_rfl
theorem foff181_9 : foff Try.prog 181 9 = some 9 := by kernel_rfl
theorem ftyp181_9 : ftyp Try.prog 181 9 = some (178, 9) := by kernel_rfl
theorem foff181_10 : foff Try.prog 181 10 = some 10 := by kernel_rfl
theorem ftyp181_10 : ftyp Try.prog 181 10 = some (179, 10) := by kernel_rfl
attribute [go_sem] szo2 aggo2 zero2 und2 szo3 aggo3 zero3 und3 szo4 aggo4 zero4 und4 szo5 aggo5 zero5 und5 szo6 aggo6 zero6 und6 szo7 aggo7 zero7 bld7 foff7_0 ftyp7_0 foff7_1 ftyp7_1 foff7_2 ftyp7_2 foff7_3 ftyp7_3 eqo7 szo8 aggo8 zero8 bld8 foff8_0 ftyp8_0 foff8_1 ftyp8_1 foff8_2 ftyp8_2 foff8_3 ftyp8_3 eqo8 szo9 aggo9 zero9 und9 szo10 aggo10 zero10 und10 szo11 aggo11 zero11 und11 szo12 aggo12 zero12 und12 szo13 aggo13 zero13 bld13 foff13_0 ftyp13_0 foff13_1 ftyp13_1 szo14 aggo14 zero14 bld14 foff14_0 ftyp14_0 foff14_1 ftyp14_1 szo15 aggo15 zero15 szo16 aggo16 zero16 szo17 aggo17 zero17 szo18 aggo18 zero18 bld18 foff18_0 ftyp18_0 szo19 aggo19 zero19 bld19 foff19_0 ftyp19_0 szo21 aggo21 zero21 und21 szo22 aggo22 zero22 rowo22 slo22 slTy22 szo24 aggo24 zero24 rowo24 slo24 slTy24 szo25 aggo25 zero25 rowo25 slo25 slTy25 szo32 aggo32 zero32 und32 szo33 aggo33 zero33 rowo33 etyp33 bld33 eqo33 szo34 aggo34 zero34 bld34 foff34_0 ftyp34_0 foff34_1 ftyp34_1 eqo34 szo35 aggo35 zero35 bld35 foff35_0 ftyp35_0 foff35_1 ftyp35_1 eqo35 szo36 aggo36 zero36 und36 szo37 aggo37 zero37 bld37 foff37_0 ftyp37_0 foff37_1 ftyp37_1 foff37_2 ftyp37_2 foff37_3 ftyp37_3 eqo37 szo38 aggo38 zero38 bld38 foff38_0 ftyp38_0 foff38_1 ftyp38_1 foff38_2 ftyp38_2 foff38_3 ftyp38_3 eqo38 szo40 aggo40 zero40 rowo40 etyp40 bld40 eqo40 szo41 aggo41 zero41 bld41 foff41_0 ftyp41_0 foff41_1 ftyp41_1 eqo41 szo42 aggo42 zero42 bld42 foff42_0 ftyp42_0 foff42_1 ftyp42_1 eqo42 szo43 aggo43 zero43 bld43 foff43_0 ftyp43_0 foff43_1 ftyp43_1 foff43_2 ftyp43_2 foff43_3 ftyp43_3 eqo43 szo44 aggo44 zero44 bld44 foff44_0 ftyp44_0 foff44_1 ftyp44_1 foff44_2 ftyp44_2 foff44_3 ftyp44_3 eqo44 szo60 aggo60 zero60 rowo60 slo60 slTy60 szo65 aggo65 zero65 rowo65 slo65 slTy65 szo88 aggo88 zero88 szo98 aggo98 zero98 rowo98 slo98 slTy98 szo101 aggo101 zero101 szo108 aggo108 zero108 szo115 aggo115 zero115 szo122 aggo122 zero122 rowo122 slo122 slTy122 szo127 aggo127 zero127 rowo127 slo127 slTy127 szo133 aggo133 zero133 und133 szo134 aggo134 zero134 rowo134 slo134 slTy134 szo139 aggo139 zero139 und139 szo140 aggo140 zero140 bld140 foff140_0 ftyp140_0 foff140_1 ftyp140_1 foff140_2 ftyp140_2 szo141 aggo141 zero141 bld141 foff141_0 ftyp141_0 foff141_1 ftyp141_1 foff141_2 ftyp141_2 szo147 aggo147 zero147 bld147 foff147_0 ftyp147_0 foff147_1 ftyp147_1 eqo147 szo148 aggo148 zero148 bld148 foff148_0 ftyp148_0 foff148_1 ftyp148_1 eqo148 szo154 aggo154 zero154 szo155 aggo155 zero155 bld155 foff155_0 ftyp155_0 foff155_1 ftyp155_1 szo156 aggo156 zero156 bld156 foff156_0 ftyp156_0 foff156_1 ftyp156_1 szo162 aggo162 zero162 rowo162 slo162 slTy162 szo164 aggo164 zero164 szo168 aggo168 zero168 bld168 foff168_0 ftyp168_0 foff168_1 ftyp168_1 foff168_2 ftyp168_2 foff168_3 ftyp168_3 szo169 aggo169 zero169 bld169 foff169_0 ftyp169_0 foff169_1 ftyp169_1 foff169_2 ftyp169_2 foff169_3 ftyp169_3 szo170 aggo170 zero170 rowo170 etyp170 bld170 szo171 aggo171 zero171 bld171 ftyp171_0 szo172 aggo172 zero172 bld172 ftyp172_0 szo174 aggo174 zero174 und174 szo175 aggo175 zero175 und175 szo176 aggo176 zero176 und176 szo178 aggo178 zero178 und178 szo179 aggo179 zero179 und179 szo180 aggo180 zero180 foff180_0 ftyp180_0 foff180_1 ftyp180_1 foff180_2 ftyp180_2 foff180_3 ftyp180_3 foff180_4 ftyp180_4 foff180_5 ftyp180_5 foff180_6 ftyp180_6 foff180_8 ftyp180_8 foff180_9 ftyp180_9 foff180_10 ftyp180_10 szo181 aggo181 zero181 foff181_0 ftyp181_0 foff181_1 ftyp181_1 foff181_2 ftyp181_2 foff181_3 ftyp181_3 foff181_4 ftyp181_4 foff181_5 ftyp181_5 foff181_6 ftyp181_6 foff181_8 ftyp181_8 foff181_9 ftyp181_9 foff181_10 ftyp181_10
theorem mixed : Try.prog.follows .mixedOrders = true := by kernel_rfl
end Go.Proofs.Ytheeehjgmifclaa

