/- What the types of the translated program are, as the walk asks for it. -/
import Derived.KernelRfl
import Derived.Test.YtpjimhkblldhaaaDoorProg
import Derived.Test.YtpjimhkblldhaaaDoorLC
set_option linter.unusedVariables false
set_option linter.unusedSimpArgs false
set_option maxRecDepth 8000
set_option maxHeartbeats 4000000
namespace Go.Proofs.YtpjimhkblldhaaaDoor
open Go Go.Sx
theorem szo2 : szo Tryd.prog 2 = some 1 := by kernel_rfl
theorem aggo2 : aggo Tryd.prog 2 = some false := by kernel_rfl
theorem zero2 : zeroL Tryd.prog 2 = some ([.v (.int .i64 0)]) := by kernel_rfl
theorem und2 : Tryd.prog.underlying 2 = some (.int .i64) := by kernel_rfl
theorem szo3 : szo Tryd.prog 3 = some 1 := by kernel_rfl
theorem aggo3 : aggo Tryd.prog 3 = some false := by kernel_rfl
theorem zero3 : zeroL Tryd.prog 3 = some ([.v (.int .i64 0)]) := by kernel_rfl
theorem und3 : Tryd.prog.underlying 3 = some (.int .i64) := by kernel_rfl
theorem szo4 : szo Tryd.prog 4 = some 1 := by kernel_rfl
theorem aggo4 : aggo Tryd.prog 4 = some false := by kernel_rfl
theorem zero4 : zeroL Tryd.prog 4 = some ([.v (.bool false)]) := by kernel_rfl
theorem und4 : Tryd.prog.underlying 4 = some .bool := by kernel_rfl
theorem szo5 : szo Tryd.prog 5 = some 1 := by kernel_rfl
theorem aggo5 : aggo Tryd.prog 5 = some false := by kernel_rfl
theorem zero5 : zeroL Tryd.prog 5 = some ([.v (.int .u8 0)]) := by kernel_rfl
theorem und5 : Tryd.prog.underlying 5 = some (.int .u8) := by kernel_rfl
theorem szo6 : szo Tryd.prog 6 = some 1 := by kernel_rfl
theorem aggo6 : aggo Tryd.prog 6 = some false := by kernel_rfl
theorem zero6 : zeroL Tryd.prog 6 = some ([.v (.int .u8 0)]) := by kernel_rfl
theorem und6 : Tryd.prog.underlying 6 = some (.int .u8) := by kernel_rfl
theorem szo7 : szo Tryd.prog 7 = some 4 := by kernel_rfl
theorem aggo7 : aggo Tryd.prog 7 = some true := by kernel_rfl
theorem zero7 : zeroL Tryd.prog 7 = some ([.v (.int .i64 0), .v (.int .i64 0), .v (.bool false), .v (.int .u8 0)]) := by kernel_rfl
theorem bld7 : bld Tryd.prog 7 = some (.st [(0, 1), (1, 1), (2, 1), (3, 1)]) := by kernel_rfl
theorem foff7_0 : foff Tryd.prog 7 0 = some 0 := by kernel_rfl
theorem ftyp7_0 : ftyp Tryd.prog 7 0 = some (2, 0) := by kernel_rfl
theorem foff7_1 : foff Tryd.prog 7 1 = some 1 := by kernel_rfl
theorem ftyp7_1 : ftyp Tryd.prog 7 1 = some (3, 1) := by kernel_rfl
theorem foff7_2 : foff Tryd.prog 7 2 = some 2 := by kernel_rfl
theorem ftyp7_2 : ftyp Tryd.prog 7 2 = some (4, 2) := by kernel_rfl
theorem foff7_3 : foff Tryd.prog 7 3 = some 3 := by kernel_rfl
theorem ftyp7_3 : ftyp Tryd.prog 7 3 = some (6, 3) := by kernel_rfl
theorem eqo7 : eqo Tryd.prog 7 = some [.i .i64, .i .i64, .b, .i .u8] := by kernel_rfl
theorem szo8 : szo Tryd.prog 8 = some 4 := by kernel_rfl
theorem aggo8 : aggo Tryd.prog 8 = some true := by kernel_rfl
theorem zero8 : zeroL Tryd.prog 8 = some ([.v (.int .i64 0), .v (.int .i64 0), .v (.bool false), .v (.int .u8 0)]) := by kernel_rfl
theorem bld8 : bld Tryd.prog 8 = some (.st [(0, 1), (1, 1), (2, 1), (3, 1)]) := by kernel_rfl
theorem foff8_0 : foff Tryd.prog 8 0 = some 0 := by kernel_rfl
theorem ftyp8_0 : ftyp Tryd.prog 8 0 = some (2, 0) := by kernel_rfl
theorem foff8_1 : foff Tryd.prog 8 1 = some 1 := by kernel_rfl
theorem ftyp8_1 : ftyp Tryd.prog 8 1 = some (3, 1) := by kernel_rfl
theorem foff8_2 : foff Tryd.prog 8 2 = some 2 := by kernel_rfl
theorem ftyp8_2 : ftyp Tryd.prog 8 2 = some (4, 2) := by kernel_rfl
theorem foff8_3 : foff Tryd.prog 8 3 = some 3 := by kernel_rfl
theorem ftyp8_3 : ftyp Tryd.prog 8 3 = some (6, 3) := by kernel_rfl
theorem eqo8 : eqo Tryd.prog 8 = some [.i .i64, .i .i64, .b, .i .u8] := by kernel_rfl
theorem szo9 : szo Tryd.prog 9 = some 1 := by kernel_rfl
theorem aggo9 : aggo Tryd.prog 9 = some false := by kernel_rfl
theorem zero9 : zeroL Tryd.prog 9 = some ([.v (.string ByteArray.empty)]) := by kernel_rfl
theorem und9 : Tryd.prog.underlying 9 = some .string := by kernel_rfl
theorem szo10 : szo Tryd.prog 10 = some 1 := by kernel_rfl
theorem aggo10 : aggo Tryd.prog 10 = some false := by kernel_rfl
theorem zero10 : zeroL Tryd.prog 10 = some ([.v (.string ByteArray.empty)]) := by kernel_rfl
theorem und10 : Tryd.prog.underlying 10 = some .string := by kernel_rfl
theorem szo11 : szo Tryd.prog 11 = some 1 := by kernel_rfl
theorem aggo11 : aggo Tryd.prog 11 = some false := by kernel_rfl
theorem zero11 : zeroL Tryd.prog 11 = some ([.v (.string ByteArray.empty)]) := by kernel_rfl
theorem und11 : Tryd.prog.underlying 11 = some .string := by kernel_rfl
theorem szo12 : szo Tryd.prog 12 = some 1 := by kernel_rfl
theorem aggo12 : aggo Tryd.prog 12 = some false := by kernel_rfl
theorem zero12 : zeroL Tryd.prog 12 = some ([.v (.int .u64 0)]) := by kernel_rfl
theorem und12 : Tryd.prog.underlying 12 = some (.int .u64) := by kernel_rfl
theorem szo13 : szo Tryd.prog 13 = some 2 := by kernel_rfl
theorem aggo13 : aggo Tryd.prog 13 = some true := by kernel_rfl
theorem zero13 : zeroL Tryd.prog 13 = some ([.v (.string ByteArray.empty), .v (.int .u64 0)]) := by kernel_rfl
theorem bld13 : bld Tryd.prog 13 = some (.st [(0, 1), (1, 1)]) := by kernel_rfl
theorem foff13_0 : foff Tryd.prog 13 0 = some 0 := by kernel_rfl
theorem ftyp13_0 : ftyp Tryd.prog 13 0 = some (9, 0) := by kernel_rfl
theorem foff13_1 : foff Tryd.prog 13 1 = some 1 := by kernel_rfl
theorem ftyp13_1 : ftyp Tryd.prog 13 1 = some (12, 1) := by kernel_rfl
theorem szo14 : szo Tryd.prog 14 = some 2 := by kernel_rfl
theorem aggo14 : aggo Tryd.prog 14 = some true := by kernel_rfl
theorem zero14 : zeroL Tryd.prog 14 = some ([.v (.string ByteArray.empty), .v (.int .u64 0)]) := by kernel_rfl
theorem bld14 : bld Tryd.prog 14 = some (.st [(0, 1), (1, 1)]) := by kernel_rfl
theorem foff14_0 : foff Tryd.prog 14 0 = some 0 := by kernel_rfl
theorem ftyp14_0 : ftyp Tryd.prog 14 0 = some (9, 0) := by kernel_rfl
theorem foff14_1 : foff Tryd.prog 14 1 = some 1 := by kernel_rfl
theorem ftyp14_1 : ftyp Tryd.prog 14 1 = some (12, 1) := by kernel_rfl
theorem szo15 : szo Tryd.prog 15 = some 1 := by kernel_rfl
theorem aggo15 : aggo Tryd.prog 15 = some false := by kernel_rfl
theorem zero15 : zeroL Tryd.prog 15 = some ([.v (.pointer none)]) := by kernel_rfl
theorem szo16 : szo Tryd.prog 16 = some 1 := by kernel_rfl
theorem aggo16 : aggo Tryd.prog 16 = some false := by kernel_rfl
theorem zero16 : zeroL Tryd.prog 16 = some ([.v (.pointer none)]) := by kernel_rfl
theorem szo17 : szo Tryd.prog 17 = some 1 := by kernel_rfl
theorem aggo17 : aggo Tryd.prog 17 = some false := by kernel_rfl
theorem zero17 : zeroL Tryd.prog 17 = some ([.v (.pointer none)]) := by kernel_rfl
theorem szo18 : szo Tryd.prog 18 = some 1 := by kernel_rfl
theorem aggo18 : aggo Tryd.prog 18 = some true := by kernel_rfl
theorem zero18 : zeroL Tryd.prog 18 = some ([.v (.pointer none)]) := by kernel_rfl
theorem bld18 : bld Tryd.prog 18 = some (.st [(0, 1)]) := by kernel_rfl
theorem foff18_0 : foff Tryd.prog 18 0 = some 0 := by kernel_rfl
theorem ftyp18_0 : ftyp Tryd.prog 18 0 = some (17, 0) := by kernel_rfl
theorem szo19 : szo Tryd.prog 19 = some 1 := by kernel_rfl
theorem aggo19 : aggo Tryd.prog 19 = some true := by kernel_rfl
theorem zero19 : zeroL Tryd.prog 19 = some ([.v (.pointer none)]) := by kernel_rfl
theorem bld19 : bld Tryd.prog 19 = some (.st [(0, 1)]) := by kernel_rfl
theorem foff19_0 : foff Tryd.prog 19 0 = some 0 := by kernel_rfl
theorem ftyp19_0 : ftyp Tryd.prog 19 0 = some (17, 0) := by kernel_rfl
theorem szo21 : szo Tryd.prog 21 = some 1 := by kernel_rfl
theorem aggo21 : aggo Tryd.prog 21 = some false := by kernel_rfl
theorem zero21 : zeroL Tryd.prog 21 = some ([.v (.int .i32 0)]) := by kernel_rfl
theorem und21 : Tryd.prog.underlying 21 = some (.int .i32) := by kernel_rfl
theorem szo22 : szo Tryd.prog 22 = some 1 := by kernel_rfl
theorem aggo22 : aggo Tryd.prog 22 = some false := by kernel_rfl
theorem zero22 : zeroL Tryd.prog 22 = some ([.v (.slice none 0 0)]) := by kernel_rfl
theorem rowo22 : rowo Tryd.prog 22 = some (false, 0, 1) := by kernel_rfl
theorem slo22 : slo Tryd.prog 22 = some (2, 1, 8) := by kernel_rfl
theorem slTy22 : slTy Tryd.prog 22 = true := by kernel_rfl
theorem szo27 : szo Tryd.prog 27 = some 1 := by kernel_rfl
theorem aggo27 : aggo Tryd.prog 27 = some false := by kernel_rfl
theorem zero27 : zeroL Tryd.prog 27 = some ([.v (.slice none 0 0)]) := by kernel_rfl
theorem rowo27 : rowo Tryd.prog 27 = some (false, 0, 3) := by kernel_rfl
theorem slo27 : slo Tryd.prog 27 = some (53, 3, 4) := by kernel_rfl
theorem slTy27 : slTy Tryd.prog 27 = true := by kernel_rfl
theorem szo30 : szo Tryd.prog 30 = some 1 := by kernel_rfl
theorem aggo30 : aggo Tryd.prog 30 = some false := by kernel_rfl
theorem zero30 : zeroL Tryd.prog 30 = some ([.v (.slice none 0 0)]) := by kernel_rfl
theorem rowo30 : rowo Tryd.prog 30 = some (false, 0, 3) := by kernel_rfl
theorem slo30 : slo Tryd.prog 30 = some (51, 3, 4) := by kernel_rfl
theorem slTy30 : slTy Tryd.prog 30 = true := by kernel_rfl
theorem szo31 : szo Tryd.prog 31 = some 1 := by kernel_rfl
theorem aggo31 : aggo Tryd.prog 31 = some false := by kernel_rfl
theorem zero31 : zeroL Tryd.prog 31 = some ([.v (.slice none 0 0)]) := by kernel_rfl
theorem rowo31 : rowo Tryd.prog 31 = some (false, 0, 3) := by kernel_rfl
theorem slo31 : slo Tryd.prog 31 = some (51, 3, 4) := by kernel_rfl
theorem slTy31 : slTy Tryd.prog 31 = true := by kernel_rfl
theorem szo44 : szo Tryd.prog 44 = some 1 := by kernel_rfl
theorem aggo44 : aggo Tryd.prog 44 = some false := by kernel_rfl
theorem zero44 : zeroL Tryd.prog 44 = some ([.v (.slice none 0 0)]) := by kernel_rfl
theorem rowo44 : rowo Tryd.prog 44 = some (false, 0, 1) := by kernel_rfl
theorem slo44 : slo Tryd.prog 44 = some (9, 1, 16) := by kernel_rfl
theorem slTy44 : slTy Tryd.prog 44 = true := by kernel_rfl
theorem szo48 : szo Tryd.prog 48 = some 1 := by kernel_rfl
theorem aggo48 : aggo Tryd.prog 48 = some false := by kernel_rfl
theorem zero48 : zeroL Tryd.prog 48 = some ([.v (.int .i16 0)]) := by kernel_rfl
theorem und48 : Tryd.prog.underlying 48 = some (.int .i16) := by kernel_rfl
theorem szo49 : szo Tryd.prog 49 = some 1 := by kernel_rfl
theorem aggo49 : aggo Tryd.prog 49 = some false := by kernel_rfl
theorem zero49 : zeroL Tryd.prog 49 = some ([.v (.int .i8 0)]) := by kernel_rfl
theorem und49 : Tryd.prog.underlying 49 = some (.int .i8) := by kernel_rfl
theorem szo50 : szo Tryd.prog 50 = some 3 := by kernel_rfl
theorem aggo50 : aggo Tryd.prog 50 = some true := by kernel_rfl
theorem zero50 : zeroL Tryd.prog 50 = some ([.v (.int .i16 0), .v (.int .i8 0), .v (.int .i8 0)]) := by kernel_rfl
theorem bld50 : bld Tryd.prog 50 = some (.st [(0, 1), (1, 1), (2, 1)]) := by kernel_rfl
theorem foff50_0 : foff Tryd.prog 50 0 = some 0 := by kernel_rfl
theorem ftyp50_0 : ftyp Tryd.prog 50 0 = some (48, 0) := by kernel_rfl
theorem foff50_1 : foff Tryd.prog 50 1 = some 1 := by kernel_rfl
theorem ftyp50_1 : ftyp Tryd.prog 50 1 = some (49, 1) := by kernel_rfl
theorem foff50_2 : foff Tryd.prog 50 2 = some 2 := by kernel_rfl
theorem ftyp50_2 : ftyp Tryd.prog 50 2 = some (49, 2) := by kernel_rfl
theorem eqo50 : eqo Tryd.prog 50 = some [.i .i16, .i .i8, .i .i8] := by kernel_rfl
theorem szo51 : szo Tryd.prog 51 = some 3 := by kernel_rfl
theorem aggo51 : aggo Tryd.prog 51 = some true := by kernel_rfl
theorem zero51 : zeroL Tryd.prog 51 = some ([.v (.int .i16 0), .v (.int .i8 0), .v (.int .i8 0)]) := by kernel_rfl
theorem bld51 : bld Tryd.prog 51 = some (.st [(0, 1), (1, 1), (2, 1)]) := by kernel_rfl
theorem foff51_0 : foff Tryd.prog 51 0 = some 0 := by kernel_rfl
theorem ftyp51_0 : ftyp Tryd.prog 51 0 = some (48, 0) := by kernel_rfl
theorem foff51_1 : foff Tryd.prog 51 1 = some 1 := by kernel_rfl
theorem ftyp51_1 : ftyp Tryd.prog 51 1 = some (49, 1) := by kernel_rfl
theorem foff51_2 : foff Tryd.prog 51 2 = some 2 := by kernel_rfl
theorem ftyp51_2 : ftyp Tryd.prog 51 2 = some (49, 2) := by kernel_rfl
theorem eqo51 : eqo Tryd.prog 51 = some [.i .i16, .i .i8, .i .i8] := by kernel_rfl
theorem szo53 : szo Tryd.prog 53 = some 3 := by kernel_rfl
theorem aggo53 : aggo Tryd.prog 53 = some true := by kernel_rfl
theorem zero53 : zeroL Tryd.prog 53 = some ([.v (.int .i16 0), .v (.int .i8 0), .v (.int .i8 0)]) := by kernel_rfl
theorem bld53 : bld Tryd.prog 53 = some (.st [(0, 1), (1, 1), (2, 1)]) := by kernel_rfl
theorem foff53_0 : foff Tryd.prog 53 0 = some 0 := by kernel_rfl
theorem ftyp53_0 : ftyp Tryd.prog 53 0 = some (48, 0) := by kernel_rfl
theorem foff53_1 : foff Tryd.prog 53 1 = some 1 := by kernel_rfl
theorem ftyp53_1 : ftyp Tryd.prog 53 1 = some (49, 1) := by kernel_rfl
theorem foff53_2 : foff Tryd.prog 53 2 = some 2 := by kernel_rfl
theorem ftyp53_2 : ftyp Tryd.prog 53 2 = some (49, 2) := by kernel_rfl
theorem eqo53 : eqo Tryd.prog 53 = some [.i .i16, .i .i8, .i .i8] := by kernel_rfl
theorem szo60 : szo Tryd.prog 60 = some 1 := by kernel_rfl
theorem aggo60 : aggo Tryd.prog 60 = some false := by kernel_rfl
theorem zero60 : zeroL Tryd.prog 60 = some ([.v (.slice none 0 0)]) := by kernel_rfl
theorem rowo60 : rowo Tryd.prog 60 = some (false, 0, 3) := by kernel_rfl
theorem slo60 : slo Tryd.prog 60 = some (61, 3, 24) := by kernel_rfl
theorem slTy60 : slTy Tryd.prog 60 = true := by kernel_rfl
theorem szo61 : szo Tryd.prog 61 = some 3 := by kernel_rfl
theorem aggo61 : aggo Tryd.prog 61 = some true := by kernel_rfl
theorem zero61 : zeroL Tryd.prog 61 = some ([.v (.int .i64 0), .v (.int .i64 0), .v (.int .i64 0)]) := by kernel_rfl
theorem rowo61 : rowo Tryd.prog 61 = some (true, 3, 1) := by kernel_rfl
theorem etyp61 : etyp Tryd.prog 61 = some (3, 2, 1) := by kernel_rfl
theorem bld61 : bld Tryd.prog 61 = some (.ar 1) := by kernel_rfl
theorem eqo61 : eqo Tryd.prog 61 = some [.i .i64, .i .i64, .i .i64] := by kernel_rfl
theorem szo68 : szo Tryd.prog 68 = some 1 := by kernel_rfl
theorem aggo68 : aggo Tryd.prog 68 = some false := by kernel_rfl
theorem zero68 : zeroL Tryd.prog 68 = some ([.v (.pointer none)]) := by kernel_rfl
theorem szo69 : szo Tryd.prog 69 = some 1 := by kernel_rfl
theorem aggo69 : aggo Tryd.prog 69 = some false := by kernel_rfl
theorem zero69 : zeroL Tryd.prog 69 = some ([.v (.slice none 0 0)]) := by kernel_rfl
theorem rowo69 : rowo Tryd.prog 69 = some (false, 0, 1) := by kernel_rfl
theorem slo69 : slo Tryd.prog 69 = some (5, 1, 1) := by kernel_rfl
theorem slTy69 : slTy Tryd.prog 69 = true := by kernel_rfl
theorem szo70 : szo Tryd.prog 70 = some 2 := by kernel_rfl
theorem aggo70 : aggo Tryd.prog 70 = some true := by kernel_rfl
theorem zero70 : zeroL Tryd.prog 70 = some ([.v (.pointer none), .v (.slice none 0 0)]) := by kernel_rfl
theorem bld70 : bld Tryd.prog 70 = some (.st [(0, 1), (1, 1)]) := by kernel_rfl
theorem foff70_0 : foff Tryd.prog 70 0 = some 0 := by kernel_rfl
theorem ftyp70_0 : ftyp Tryd.prog 70 0 = some (68, 0) := by kernel_rfl
theorem foff70_1 : foff Tryd.prog 70 1 = some 1 := by kernel_rfl
theorem ftyp70_1 : ftyp Tryd.prog 70 1 = some (69, 1) := by kernel_rfl
theorem szo71 : szo Tryd.prog 71 = some 2 := by kernel_rfl
theorem aggo71 : aggo Tryd.prog 71 = some true := by kernel_rfl
theorem zero71 : zeroL Tryd.prog 71 = some ([.v (.pointer none), .v (.slice none 0 0)]) := by kernel_rfl
theorem bld71 : bld Tryd.prog 71 = some (.st [(0, 1), (1, 1)]) := by kernel_rfl
theorem foff71_0 : foff Tryd.prog 71 0 = some 0 := by kernel_rfl
theorem ftyp71_0 : ftyp Tryd.prog 71 0 = some (68, 0) := by kernel_rfl
theorem foff71_1 : foff Tryd.prog 71 1 = some 1 := by kernel_rfl
theorem ftyp71_1 : ftyp Tryd.prog 71 1 = some (69, 1) := by kernel_rfl
theorem szo82 : szo Tryd.prog 82 = some 1 := by kernel_rfl
theorem aggo82 : aggo Tryd.prog 82 = some false := by kernel_rfl
theorem zero82 : zeroL Tryd.prog 82 = some ([.v (.pointer none)]) := by kernel_rfl
theorem szo87 : szo Tryd.prog 87 = some 24 := by kernel_rfl
theorem aggo87 : aggo Tryd.prog 87 = some true := by kernel_rfl
theorem zero87 : zeroL Tryd.prog 87 = some (List.replicate 24 (.v (.int .u8 0))) := by kernel_rfl
theorem rowo87 : rowo Tryd.prog 87 = some (true, 24, 1) := by kernel_rfl
theorem etyp87 : etyp Tryd.prog 87 = some (24, 5, 1) := by kernel_rfl
theorem bld87 : bld Tryd.prog 87 = some (.ar 1) := by kernel_rfl
theorem eqo87 : eqo Tryd.prog 87 = some (List.replicate 24 (.i .u8)) := by kernel_rfl
theorem szo88 : szo Tryd.prog 88 = some 1 := by kernel_rfl
theorem aggo88 : aggo Tryd.prog 88 = some false := by kernel_rfl
theorem zero88 : zeroL Tryd.prog 88 = some ([.v (.int .u64 0)]) := by kernel_rfl
theorem und88 : Tryd.prog.underlying 88 = some (.int .u64) := by kernel_rfl
theorem szo97 : szo Tryd.prog 97 = some 1 := by kernel_rfl
theorem aggo97 : aggo Tryd.prog 97 = some false := by kernel_rfl
theorem zero97 : zeroL Tryd.prog 97 = some ([.v (.int .i64 0)]) := by kernel_rfl
theorem und97 : Tryd.prog.underlying 97 = some (.int .i64) := by kernel_rfl
theorem szo100 : szo Tryd.prog 100 = some 1 := by kernel_rfl
theorem aggo100 : aggo Tryd.prog 100 = some false := by kernel_rfl
theorem zero100 : zeroL Tryd.prog 100 = some ([.v (.int .u64 0)]) := by kernel_rfl
theorem und100 : Tryd.prog.underlying 100 = some (.int .u64) := by kernel_rfl
theorem szo101 : szo Tryd.prog 101 = some 1 := by kernel_rfl
theorem aggo101 : aggo Tryd.prog 101 = some false := by kernel_rfl
theorem zero101 : zeroL Tryd.prog 101 = some ([.v (.pointer none)]) := by kernel_rfl
theorem szo106 : szo Tryd.prog 106 = some 20 := by kernel_rfl
theorem aggo106 : aggo Tryd.prog 106 = some true := by kernel_rfl
theorem zero106 : zeroL Tryd.prog 106 = some (List.replicate 20 (.v (.int .u64 0))) := by kernel_rfl
theorem rowo106 : rowo Tryd.prog 106 = some (true, 20, 1) := by kernel_rfl
theorem etyp106 : etyp Tryd.prog 106 = some (20, 88, 1) := by kernel_rfl
theorem bld106 : bld Tryd.prog 106 = some (.ar 1) := by kernel_rfl
theorem eqo106 : eqo Tryd.prog 106 = some (List.replicate 20 (.i .u64)) := by kernel_rfl
theorem szo107 : szo Tryd.prog 107 = some 1 := by kernel_rfl
theorem aggo107 : aggo Tryd.prog 107 = some false := by kernel_rfl
theorem zero107 : zeroL Tryd.prog 107 = some ([.v (.int .u32 0)]) := by kernel_rfl
theorem und107 : Tryd.prog.underlying 107 = some (.int .u32) := by kernel_rfl
theorem szo108 : szo Tryd.prog 108 = some 65 := by kernel_rfl
theorem aggo108 : aggo Tryd.prog 108 = some true := by kernel_rfl
theorem zero108 : zeroL Tryd.prog 108 = some (List.replicate 65 (.v (.int .u8 0))) := by kernel_rfl
theorem rowo108 : rowo Tryd.prog 108 = some (true, 65, 1) := by kernel_rfl
theorem etyp108 : etyp Tryd.prog 108 = some (65, 5, 1) := by kernel_rfl
theorem bld108 : bld Tryd.prog 108 = some (.ar 1) := by kernel_rfl
theorem eqo108 : eqo Tryd.prog 108 = some (List.replicate 65 (.i .u8)) := by kernel_rfl
theorem szo116 : szo Tryd.prog 116 = some 3 := by kernel_rfl
theorem aggo116 : aggo Tryd.prog 116 = some true := by kernel_rfl
theorem zero116 : zeroL Tryd.prog 116 = some ([.v (.string ByteArray.empty), .v (.string ByteArray.empty), .v .nilIface]) := by kernel_rfl
theorem bld116 : bld Tryd.prog 116 = some (.st [(0, 1), (1, 1), (2, 1)]) := by kernel_rfl
theorem foff116_0 : foff Tryd.prog 116 0 = some 0 := by kernel_rfl
theorem ftyp116_0 : ftyp Tryd.prog 116 0 = some (9, 0) := by kernel_rfl
theorem foff116_1 : foff Tryd.prog 116 1 = some 1 := by kernel_rfl
theorem ftyp116_1 : ftyp Tryd.prog 116 1 = some (9, 1) := by kernel_rfl
theorem foff116_2 : foff Tryd.prog 116 2 = some 2 := by kernel_rfl
theorem ftyp116_2 : ftyp Tryd.prog 116 2 = some (74, 2) := by kernel_rfl
theorem szo117 : szo Tryd.prog 117 = some 3 := by kernel_rfl
theorem aggo117 : aggo Tryd.prog 117 = some true := by kernel_rfl
theorem zero117 : zeroL Tryd.prog 117 = some ([.v (.string ByteArray.empty), .v (.string ByteArray.empty), .v .nilIface]) := by kernel_rfl
theorem bld117 : bld Tryd.prog 117 = some (.st [(0, 1), (1, 1), (2, 1)]) := by kernel_rfl
theorem foff117_0 : foff Tryd.prog 117 0 = some 0 := by kernel_rfl
theorem ftyp117_0 : ftyp Tryd.prog 117 0 = some (9, 0) := by kernel_rfl
theorem foff117_1 : foff Tryd.prog 117 1 = some 1 := by kernel_rfl
theorem ftyp117_1 : ftyp Tryd.prog 117 1 = some (9, 1) := by kernel_rfl
theorem foff117_2 : foff Tryd.prog 117 2 = some 2 := by kernel_rfl
theorem ftyp117_2 : ftyp Tryd.prog 117 2 = some (74, 2) := by kernel_rfl
theorem szo122 : szo Tryd.prog 122 = some 1 := by kernel_rfl
theorem aggo122 : aggo Tryd.prog 122 = some false := by kernel_rfl
theorem zero122 : zeroL Tryd.prog 122 = some ([.v (.pointer none)]) := by kernel_rfl
theorem szo123 : szo Tryd.prog 123 = some 1 := by kernel_rfl
theorem aggo123 : aggo Tryd.prog 123 = some true := by kernel_rfl
theorem zero123 : zeroL Tryd.prog 123 = some ([.v (.string ByteArray.empty)]) := by kernel_rfl
theorem bld123 : bld Tryd.prog 123 = some (.st [(0, 1)]) := by kernel_rfl
theorem foff123_0 : foff Tryd.prog 123 0 = some 0 := by kernel_rfl
theorem ftyp123_0 : ftyp Tryd.prog 123 0 = some (9, 0) := by kernel_rfl
theorem szo124 : szo Tryd.prog 124 = some 1 := by kernel_rfl
theorem aggo124 : aggo Tryd.prog 124 = some true := by kernel_rfl
theorem zero124 : zeroL Tryd.prog 124 = some ([.v (.string ByteArray.empty)]) := by kernel_rfl
theorem bld124 : bld Tryd.prog 124 = some (.st [(0, 1)]) := by kernel_rfl
theorem foff124_0 : foff Tryd.prog 124 0 = some 0 := by kernel_rfl
theorem ftyp124_0 : ftyp Tryd.prog 124 0 = some (9, 0) := by kernel_rfl
theorem szo125 : szo Tryd.prog 125 = some 32 := by kernel_rfl
theorem aggo125 : aggo Tryd.prog 125 = some true := by kernel_rfl
theorem zero125 : zeroL Tryd.prog 125 = some (List.replicate 32 (.v (.int .u8 0))) := by kernel_rfl
theorem rowo125 : rowo Tryd.prog 125 = some (true, 32, 1) := by kernel_rfl
theorem etyp125 : etyp Tryd.prog 125 = some (32, 5, 1) := by kernel_rfl
theorem bld125 : bld Tryd.prog 125 = some (.ar 1) := by kernel_rfl
theorem eqo125 : eqo Tryd.prog 125 = some (List.replicate 32 (.i .u8)) := by kernel_rfl
theorem szo126 : szo Tryd.prog 126 = some 64 := by kernel_rfl
theorem aggo126 : aggo Tryd.prog 126 = some true := by kernel_rfl
theorem zero126 : zeroL Tryd.prog 126 = some (List.replicate 64 (.v (.int .u8 0))) := by kernel_rfl
theorem rowo126 : rowo Tryd.prog 126 = some (true, 64, 1) := by kernel_rfl
theorem etyp126 : etyp Tryd.prog 126 = some (64, 5, 1) := by kernel_rfl
theorem bld126 : bld Tryd.prog 126 = some (.ar 1) := by kernel_rfl
theorem eqo126 : eqo Tryd.prog 126 = some (List.replicate 64 (.i .u8)) := by kernel_rfl
theorem szo127 : szo Tryd.prog 127 = some 256 := by kernel_rfl
theorem aggo127 : aggo Tryd.prog 127 = some true := by kernel_rfl
theorem rowo127 : rowo Tryd.prog 127 = some (true, 256, 1) := by kernel_rfl
theorem etyp127 : etyp Tryd.prog 127 = some (256, 5, 1) := by kernel_rfl
theorem bld127 : bld Tryd.prog 127 = some (.ar 1) := by kernel_rfl
theorem eqo127 : eqo Tryd.prog 127 = some (List.replicate 256 (.i .u8)) := by kernel_rfl
theorem szo128 : szo Tryd.prog 128 = some 2 := by kernel_rfl
theorem aggo128 : aggo Tryd.prog 128 = some true := by kernel_rfl
theorem zero128 : zeroL Tryd.prog 128 = some ([.v (.int .u8 0), .v (.int .u8 0)]) := by kernel_rfl
theorem bld128 : bld Tryd.prog 128 = some (.st [(0, 1), (1, 1)]) := by kernel_rfl
theorem foff128_0 : foff Tryd.prog 128 0 = some 0 := by kernel_rfl
theorem ftyp128_0 : ftyp Tryd.prog 128 0 = some (5, 0) := by kernel_rfl
theorem foff128_1 : foff Tryd.prog 128 1 = some 1 := by kernel_rfl
theorem ftyp128_1 : ftyp Tryd.prog 128 1 = some (5, 1) := by kernel_rfl
theorem eqo128 : eqo Tryd.prog 128 = some [.i .u8, .i .u8] := by kernel_rfl
theorem szo129 : szo Tryd.prog 129 = some 2 := by kernel_rfl
theorem aggo129 : aggo Tryd.prog 129 = some true := by kernel_rfl
theorem zero129 : zeroL Tryd.prog 129 = some ([.v (.int .u8 0), .v (.int .u8 0)]) := by kernel_rfl
theorem bld129 : bld Tryd.prog 129 = some (.st [(0, 1), (1, 1)]) := by kernel_rfl
theorem foff129_0 : foff Tryd.prog 129 0 = some 0 := by kernel_rfl
theorem ftyp129_0 : ftyp Tryd.prog 129 0 = some (5, 0) := by kernel_rfl
theorem foff129_1 : foff Tryd.prog 129 1 = some 1 := by kernel_rfl
theorem ftyp129_1 : ftyp Tryd.prog 129 1 = some (5, 1) := by kernel_rfl
theorem eqo129 : eqo Tryd.prog 129 = some [.i .u8, .i .u8] := by kernel_rfl
theorem szo130 : szo Tryd.prog 130 = some 32 := by kernel_rfl
theorem aggo130 : aggo Tryd.prog 130 = some true := by kernel_rfl
theorem zero130 : zeroL Tryd.prog 130 = some (List.replicate 32 (.v (.int .u8 0))) := by kernel_rfl
theorem rowo130 : rowo Tryd.prog 130 = some (true, 16, 2) := by kernel_rfl
theorem etyp130 : etyp Tryd.prog 130 = some (16, 129, 2) := by kernel_rfl
theorem bld130 : bld Tryd.prog 130 = some (.ar 2) := by kernel_rfl
theorem eqo130 : eqo Tryd.prog 130 = some (List.replicate 32 (.i .u8)) := by kernel_rfl
theorem szo131 : szo Tryd.prog 131 = some 4 := by kernel_rfl
theorem aggo131 : aggo Tryd.prog 131 = some true := by kernel_rfl
theorem zero131 : zeroL Tryd.prog 131 = some ([.v (.pointer none), .v (.pointer none), .v (.pointer none), .v (.string ByteArray.empty)]) := by kernel_rfl
theorem bld131 : bld Tryd.prog 131 = some (.st [(0, 1), (1, 1), (2, 1), (3, 1)]) := by kernel_rfl
theorem foff131_0 : foff Tryd.prog 131 0 = some 0 := by kernel_rfl
theorem ftyp131_0 : ftyp Tryd.prog 131 0 = some (17, 0) := by kernel_rfl
theorem foff131_1 : foff Tryd.prog 131 1 = some 1 := by kernel_rfl
theorem ftyp131_1 : ftyp Tryd.prog 131 1 = some (17, 1) := by kernel_rfl
theorem foff131_2 : foff Tryd.prog 131 2 = some 2 := by kernel_rfl
theorem ftyp131_2 : ftyp Tryd.prog 131 2 = some (17, 2) := by kernel_rfl
theorem foff131_3 : foff Tryd.prog 131 3 = some 3 := by kernel_rfl
theorem ftyp131_3 : ftyp Tryd.prog 131 3 = some (9, 3) := by kernel_rfl
theorem szo132 : szo Tryd.prog 132 = some 4 := by kernel_rfl
theorem aggo132 : aggo Tryd.prog 132 = some true := by kernel_rfl
theorem zero132 : zeroL Tryd.prog 132 = some ([.v (.pointer none), .v (.pointer none), .v (.pointer none), .v (.string ByteArray.empty)]) := by kernel_rfl
theorem bld132 : bld Tryd.prog 132 = some (.st [(0, 1), (1, 1), (2, 1), (3, 1)]) := by kernel_rfl
theorem foff132_0 : foff Tryd.prog 132 0 = some 0 := by kernel_rfl
theorem ftyp132_0 : ftyp Tryd.prog 132 0 = some (17, 0) := by kernel_rfl
theorem foff132_1 : foff Tryd.prog 132 1 = some 1 := by kernel_rfl
theorem ftyp132_1 : ftyp Tryd.prog 132 1 = some (17, 1) := by kernel_rfl
theorem foff132_2 : foff Tryd.prog 132 2 = some 2 := by kernel_rfl
theorem ftyp132_2 : ftyp Tryd.prog 132 2 = some (17, 2) := by kernel_rfl
theorem foff132_3 : foff Tryd.prog 132 3 = some 3 := by kernel_rfl
theorem ftyp132_3 : ftyp Tryd.prog 132 3 = some (9, 3) := by kernel_rfl
theorem szo133 : szo Tryd.prog 133 = some 0 := by kernel_rfl
theorem aggo133 : aggo Tryd.prog 133 = some true := by kernel_rfl
theorem zero133 : zeroL Tryd.prog 133 = some ([]) := by kernel_rfl
theorem rowo133 : rowo Tryd.prog 133 = some (true, 0, 1) := by kernel_rfl
theorem etyp133 : etyp Tryd.prog 133 = some (0, 16, 1) := by kernel_rfl
theorem bld133 : bld Tryd.prog 133 = some (.ar 1) := by kernel_rfl
theorem szo134 : szo Tryd.prog 134 = some 0 := by kernel_rfl
theorem aggo134 : aggo Tryd.prog 134 = some true := by kernel_rfl
theorem zero134 : zeroL Tryd.prog 134 = some ([]) := by kernel_rfl
theorem bld134 : bld Tryd.prog 134 = some (.st [(0, 0)]) := by kernel_rfl
theorem ftyp134_0 : ftyp Tryd.prog 134 0 = some (133, 0) := by kernel_rfl
theorem szo135 : szo Tryd.prog 135 = some 0 := by kernel_rfl
theorem aggo135 : aggo Tryd.prog 135 = some true := by kernel_rfl
theorem zero135 : zeroL Tryd.prog 135 = some ([]) := by kernel_rfl
theorem bld135 : bld Tryd.prog 135 = some (.st [(0, 0)]) := by kernel_rfl
theorem ftyp135_0 : ftyp Tryd.prog 135 0 = some (133, 0) := by kernel_rfl
theorem szo137 : szo Tryd.prog 137 = some 1 := by kernel_rfl
theorem aggo137 : aggo Tryd.prog 137 = some false := by kernel_rfl
theorem zero137 : zeroL Tryd.prog 137 = some ([.v (.int .u8 0)]) := by kernel_rfl
theorem und137 : Tryd.prog.underlying 137 = some (.int .u8) := by kernel_rfl
theorem szo138 : szo Tryd.prog 138 = some 1 := by kernel_rfl
theorem aggo138 : aggo Tryd.prog 138 = some false := by kernel_rfl
theorem zero138 : zeroL Tryd.prog 138 = some ([.v (.int .u8 0)]) := by kernel_rfl
theorem und138 : Tryd.prog.underlying 138 = some (.int .u8) := by kernel_rfl
theorem szo140 : szo Tryd.prog 140 = some 1 := by kernel_rfl
theorem aggo140 : aggo Tryd.prog 140 = some false := by kernel_rfl
theorem zero140 : zeroL Tryd.prog 140 = some ([.v (.int .i32 0)]) := by kernel_rfl
theorem und140 : Tryd.prog.underlying 140 = some (.int .i32) := by kernel_rfl
theorem szo141 : szo Tryd.prog 141 = some 1 := by kernel_rfl
theorem aggo141 : aggo Tryd.prog 141 = some false := by kernel_rfl
theorem zero141 : zeroL Tryd.prog 141 = some ([.v (.int .i32 0)]) := by kernel_rfl
theorem und141 : Tryd.prog.underlying 141 = some (.int .i32) := by kernel_rfl
theorem szo142 : szo Tryd.prog 142 = some 11 := by kernel_rfl
theorem aggo142 : aggo Tryd.prog 142 = some true := by kernel_rfl
theorem zero142 : zeroL Tryd.prog 142 = some ([.v (.int .u64 0), .v (.int .u64 0), .v (.int .u32 0), .v (.int .u8 0), .v (.int .u8 0), .v (.int .u8 0), .v (.int .u8 0), .v .nilFunc, .v (.pointer none), .v (.int .i32 0), .v (.int .i32 0)]) := by kernel_rfl
theorem foff142_0 : foff Tryd.prog 142 0 = some 0 := by kernel_rfl
theorem ftyp142_0 : ftyp Tryd.prog 142 0 = some (12, 0) := by kernel_rfl
theorem foff142_1 : foff Tryd.prog 142 1 = some 1 := by kernel_rfl
theorem ftyp142_1 : ftyp Tryd.prog 142 1 = some (12, 1) := by kernel_rfl
theorem foff142_2 : foff Tryd.prog 142 2 = some 2 := by kernel_rfl
theorem ftyp142_2 : ftyp Tryd.prog 142 2 = some (107, 2) := by kernel_rfl
theorem foff142_3 : foff Tryd.prog 142 3 = some 3 := by kernel_rfl
theorem ftyp142_3 : ftyp Tryd.prog 142 3 = some (137, 3) := by kernel_rfl
theorem foff142_4 : foff Tryd.prog 142 4 = some 4 := by kernel_rfl
theorem ftyp142_4 : ftyp Tryd.prog 142 4 = some (5, 4) := by kernel_rfl
theorem foff142_5 : foff Tryd.prog 142 5 = some 5 := by kernel_rfl
theorem ftyp142_5 : ftyp Tryd.prog 142 5 = some (5, 5) := by kernel_rfl
theorem foff142_6 : foff Tryd.prog 142 6 = some 6 := by kernel_rfl
theorem ftyp142_6 : ftyp Tryd.prog 142 6 = some (138, 6) := by kernel_rfl
theorem foff142_8 : foff Tryd.prog 142 8 = some 8 := by kernel_rfl
theorem ftyp142_8 : ftyp Tryd.prog 142 8 = some (82, 8) := by kernel_rfl
theorem foff142_9 : foff Tryd.prog 142 9 = some 9 := by kernel_rfl
theorem ftyp142_9 : ftyp Tryd.prog 142 9 = some (140, 9) := by kernel_rfl
theorem foff142_10 : foff Tryd.prog 142 10 = some 10 := by kernel_rfl
theorem ftyp142_10 : ftyp Tryd.prog 142 10 = some (141, 10) := by kernel_rfl
theorem szo143 : szo Tryd.prog 143 = some 11 := by kernel_rfl
theorem aggo143 : aggo Tryd.prog 143 = some true := by kernel_rfl
theorem zero143 : zeroL Tryd.prog 143 = some ([.v (.int .u64 0), .v (.int .u64 0), .v (.int .u32 0), .v (.int .u8 0), .v (.int .u8 0), .v (.int .u8 0), .v (.int .u8 0), .v .nilFunc, .v (.pointer none), .v (.int .i32 0), .v (.int .i32 0)]) := by kernel_rfl
theorem foff143_0 : foff Tryd.prog 143 0 = some 0 := by kernel_rfl
theorem ftyp143_0 : ftyp Tryd.prog 143 0 = some (12, 0) := by kernel_rfl
theorem foff143_1 : foff Tryd.prog 143 1 = some 1 := by kernel_rfl
theorem ftyp143_1 : ftyp Tryd.prog 143 1 = some (12, 1) := by kernel_rfl
theorem foff143_2 : foff Tryd.prog 143 2 = some 2 := by kernel_rfl
theorem ftyp143_2 : ftyp Tryd.prog 143 2 = some (107, 2) := by kernel_rfl
theorem foff143_3 : foff Tryd.prog 143 3 = some 3 := by kernel_rfl
theorem ftyp143_3 : ftyp Tryd.prog 143 3 = some (137, 3) := by kernel_rfl
theorem foff143_4 : foff Tryd.prog 143 4 = some 4 := by kernel_rfl
theorem ftyp143_4 : ftyp Tryd.prog 143 4 = some (5, 4) := by kernel_rfl
theorem foff143_5 : foff Tryd.prog 143 5 = some 5 := by kernel_rfl
theorem ftyp143_5 : ftyp Tryd.prog 143 5 = some (5, 5) := by kernel_rfl
theorem foff143_6 : foff Tryd.prog 143 6 = some 6 := by kernel_rfl
theorem ftyp143_6 : ftyp Tryd.prog 143 6 = some (138, 6) := by kernel_rfl
theorem foff143_8 : foff Tryd.prog 143 8 = some 8 := by kernel_rfl
theorem ftyp143_8 : ftyp Tryd.prog 143 8 = some (82, 8) := by kernel_rfl
theorem foff143_9 : foff Tryd.prog 143 9 = some 9 := by kernel_rfl
theorem ftyp143_9 : ftyp Tryd.prog 143 9 = some (140, 9) := by kernel_rfl
theorem foff143_10 : foff Tryd.prog 143 10 = some 10 := by kernel_rfl
theorem ftyp143_10 : ftyp Tryd.prog 143 10 = some (141, 10) := by kernel_rfl
attribute [go_sem] szo2 aggo2 zero2 und2 szo3 aggo3 zero3 und3 szo4 aggo4 zero4 und4 szo5 aggo5 zero5 und5 szo6 aggo6 zero6 und6 szo7 aggo7 zero7 bld7 foff7_0 ftyp7_0 foff7_1 ftyp7_1 foff7_2 ftyp7_2 foff7_3 ftyp7_3 eqo7 szo8 aggo8 zero8 bld8 foff8_0 ftyp8_0 foff8_1 ftyp8_1 foff8_2 ftyp8_2 foff8_3 ftyp8_3 eqo8 szo9 aggo9 zero9 und9 szo10 aggo10 zero10 und10 szo11 aggo11 zero11 und11 szo12 aggo12 zero12 und12 szo13 aggo13 zero13 bld13 foff13_0 ftyp13_0 foff13_1 ftyp13_1 szo14 aggo14 zero14 bld14 foff14_0 ftyp14_0 foff14_1 ftyp14_1 szo15 aggo15 zero15 szo16 aggo16 zero16 szo17 aggo17 zero17 szo18 aggo18 zero18 bld18 foff18_0 ftyp18_0 szo19 aggo19 zero19 bld19 foff19_0 ftyp19_0 szo21 aggo21 zero21 und21 szo22 aggo22 zero22 rowo22 slo22 slTy22 szo27 aggo27 zero27 rowo27 slo27 slTy27 szo30 aggo30 zero30 rowo30 slo30 slTy30 szo31 aggo31 zero31 rowo31 slo31 slTy31 szo44 aggo44 zero44 rowo44 slo44 slTy44 szo48 aggo48 zero48 und48 szo49 aggo49 zero49 und49 szo50 aggo50 zero50 bld50 foff50_0 ftyp50_0 foff50_1 ftyp50_1 foff50_2 ftyp50_2 eqo50 szo51 aggo51 zero51 bld51 foff51_0 ftyp51_0 foff51_1 ftyp51_1 foff51_2 ftyp51_2 eqo51 szo53 aggo53 zero53 bld53 foff53_0 ftyp53_0 foff53_1 ftyp53_1 foff53_2 ftyp53_2 eqo53 szo60 aggo60 zero60 rowo60 slo60 slTy60 szo61 aggo61 zero61 rowo61 etyp61 bld61 eqo61 szo68 aggo68 zero68 szo69 aggo69 zero69 rowo69 slo69 slTy69 szo70 aggo70 zero70 bld70 foff70_0 ftyp70_0 foff70_1 ftyp70_1 szo71 aggo71 zero71 bld71 foff71_0 ftyp71_0 foff71_1 ftyp71_1 szo82 aggo82 zero82 szo87 aggo87 zero87 rowo87 etyp87 bld87 eqo87 szo88 aggo88 zero88 und88 szo97 aggo97 zero97 und97 szo100 aggo100 zero100 und100 szo101 aggo101 zero101 szo106 aggo106 zero106 rowo106 etyp106 bld106 eqo106 szo107 aggo107 zero107 und107 szo108 aggo108 zero108 rowo108 etyp108 bld108 eqo108 szo116 aggo116 zero116 bld116 foff116_0 ftyp116_0 foff116_1 ftyp116_1 foff116_2 ftyp116_2 szo117 aggo117 zero117 bld117 foff117_0 ftyp117_0 foff117_1 ftyp117_1 foff117_2 ftyp117_2 szo122 aggo122 zero122 szo123 aggo123 zero123 bld123 foff123_0 ftyp123_0 szo124 aggo124 zero124 bld124 foff124_0 ftyp124_0 szo125 aggo125 zero125 rowo125 etyp125 bld125 eqo125 szo126 aggo126 zero126 rowo126 etyp126 bld126 eqo126 szo127 aggo127 rowo127 etyp127 bld127 eqo127 szo128 aggo128 zero128 bld128 foff128_0 ftyp128_0 foff128_1 ftyp128_1 eqo128 szo129 aggo129 zero129 bld129 foff129_0 ftyp129_0 foff129_1 ftyp129_1 eqo129 szo130 aggo130 zero130 rowo130 etyp130 bld130 eqo130 szo131 aggo131 zero131 bld131 foff131_0 ftyp131_0 foff131_1 ftyp131_1 foff131_2 ftyp131_2 foff131_3 ftyp131_3 szo132 aggo132 zero132 bld132 foff132_0 ftyp132_0 foff132_1 ftyp132_1 foff132_2 ftyp132_2 foff132_3 ftyp132_3 szo133 aggo133 zero133 rowo133 etyp133 bld133 szo134 aggo134 zero134 bld134 ftyp134_0 szo135 aggo135 zero135 bld135 ftyp135_0 szo137 aggo137 zero137 und137 szo138 aggo138 zero138 und138 szo140 aggo140 zero140 und140 szo141 aggo141 zero141 und141 szo142 aggo142 zero142 foff142_0 ftyp142_0 foff142_1 ftyp142_1 foff142_2 ftyp142_2 foff142_3 ftyp142_3 foff142_4 ftyp142_4 foff142_5 ftyp142_5 foff142_6 ftyp142_6 foff142_8 ftyp142_8 foff142_9 ftyp142_9 foff142_10 ftyp142_10 szo143 aggo143 zero143 foff143_0 ftyp143_0 foff143_1 ftyp143_1 foff143_2 ftyp143_2 foff143_3 ftyp143_3 foff143_4 ftyp143_4 foff143_5 ftyp143_5 foff143_6 ftyp143_6 foff143_8 ftyp143_8 foff143_9 ftyp143_9 foff143_10 ftyp143_10
theorem mixed : Tryd.prog.follows .mixedOrders = true := by kernel_rfl
end Go.Proofs.YtpjimhkblldhaaaDoor

