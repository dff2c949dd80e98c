/- What the types of the translated program are, as the walk asks for it. -/
import Derived.KernelRfl
import Derived.Test.YtjkkallcgplgmaaProg
import Derived.Test.YtjkkallcgplgmaaLC
set_option linter.unusedVariables false
set_option linter.unusedSimpArgs false
set_option maxRecDepth 8000
set_option maxHeartbeats 4000000
namespace Go.Proofs.Ytjkkallcgplgmaa
open Go Go.Sx
theorem szo2 : szo Try.prog 2 = some 1 := by kernel_rfl
theorem aggo2 : aggo Try.prog 2 = some false := by kernel_rfl
theorem zero2 : zeroL Try.prog 2 = some ([.v (.int .i64 0)]) := by kernel_rfl
theorem und2 : Try.prog.underlying 2 = some (.int .i64) := by kernel_rfl
theorem szo3 : szo Try.prog 3 = some 1 := by kernel_rfl
theorem aggo3 : aggo Try.prog 3 = some false := by kernel_rfl
theorem zero3 : zeroL Try.prog 3 = some ([.v (.int .i64 0)]) := by kernel_rfl
theorem und3 : Try.prog.underlying 3 = some (.int .i64) := by kernel_rfl
theorem szo4 : szo Try.prog 4 = some 1 := by kernel_rfl
theorem aggo4 : aggo Try.prog 4 = some false := by kernel_rfl
theorem zero4 : zeroL Try.prog 4 = some ([.v (.bool false)]) := by kernel_rfl
theorem und4 : Try.prog.underlying 4 = some .bool := by kernel_rfl
theorem szo5 : szo Try.prog 5 = some 1 := by kernel_rfl
theorem aggo5 : aggo Try.prog 5 = some false := by kernel_rfl
theorem zero5 : zeroL Try.prog 5 = some ([.v (.int .u8 0)]) := by kernel_rfl
theorem und5 : Try.prog.underlying 5 = some (.int .u8) := by kernel_rfl
theorem szo6 : szo Try.prog 6 = some 1 := by kernel_rfl
theorem aggo6 : aggo Try.prog 6 = some false := by kernel_rfl
theorem zero6 : zeroL Try.prog 6 = some ([.v (.int .u8 0)]) := by kernel_rfl
theorem und6 : Try.prog.underlying 6 = some (.int .u8) := by kernel_rfl
theorem szo7 : szo Try.prog 7 = some 4 := by kernel_rfl
theorem aggo7 : aggo Try.prog 7 = some true := by kernel_rfl
theorem zero7 : zeroL Try.prog 7 = some ([.v (.int .i64 0), .v (.int .i64 0), .v (.bool false), .v (.int .u8 0)]) := by kernel_rfl
theorem bld7 : bld Try.prog 7 = some (.st [(0, 1), (1, 1), (2, 1), (3, 1)]) := by kernel_rfl
theorem foff7_0 : foff Try.prog 7 0 = some 0 := by kernel_rfl
theorem ftyp7_0 : ftyp Try.prog 7 0 = some (2, 0) := by kernel_rfl
theorem foff7_1 : foff Try.prog 7 1 = some 1 := by kernel_rfl
theorem ftyp7_1 : ftyp Try.prog 7 1 = some (3, 1) := by kernel_rfl
theorem foff7_2 : foff Try.prog 7 2 = some 2 := by kernel_rfl
theorem ftyp7_2 : ftyp Try.prog 7 2 = some (4, 2) := by kernel_rfl
theorem foff7_3 : foff Try.prog 7 3 = some 3 := by kernel_rfl
theorem ftyp7_3 : ftyp Try.prog 7 3 = some (6, 3) := by kernel_rfl
theorem eqo7 : eqo Try.prog 7 = some [.i .i64, .i .i64, .b, .i .u8] := by kernel_rfl
theorem szo8 : szo Try.prog 8 = some 4 := by kernel_rfl
theorem aggo8 : aggo Try.prog 8 = some true := by kernel_rfl
theorem zero8 : zeroL Try.prog 8 = some ([.v (.int .i64 0), .v (.int .i64 0), .v (.bool false), .v (.int .u8 0)]) := by kernel_rfl
theorem bld8 : bld Try.prog 8 = some (.st [(0, 1), (1, 1), (2, 1), (3, 1)]) := by kernel_rfl
theorem foff8_0 : foff Try.prog 8 0 = some 0 := by kernel_rfl
theorem ftyp8_0 : ftyp Try.prog 8 0 = some (2, 0) := by kernel_rfl
theorem foff8_1 : foff Try.prog 8 1 = some 1 := by kernel_rfl
theorem ftyp8_1 : ftyp Try.prog 8 1 = some (3, 1) := by kernel_rfl
theorem foff8_2 : foff Try.prog 8 2 = some 2 := by kernel_rfl
theorem ftyp8_2 : ftyp Try.prog 8 2 = some (4, 2) := by kernel_rfl
theorem foff8_3 : foff Try.prog 8 3 = some 3 := by kernel_rfl
theorem ftyp8_3 : ftyp Try.prog 8 3 = some (6, 3) := by kernel_rfl
theorem eqo8 : eqo Try.prog 8 = some [.i .i64, .i .i64, .b, .i .u8] := by kernel_rfl
theorem szo9 : szo Try.prog 9 = some 1 := by kernel_rfl
theorem aggo9 : aggo Try.prog 9 = some false := by kernel_rfl
theorem zero9 : zeroL Try.prog 9 = some ([.v (.string ByteArray.empty)]) := by kernel_rfl
theorem und9 : Try.prog.underlying 9 = some .string := by kernel_rfl
theorem szo10 : szo Try.prog 10 = some 1 := by kernel_rfl
theorem aggo10 : aggo Try.prog 10 = some false := by kernel_rfl
theorem zero10 : zeroL Try.prog 10 = some ([.v (.string ByteArray.empty)]) := by kernel_rfl
theorem und10 : Try.prog.underlying 10 = some .string := by kernel_rfl
theorem szo11 : szo Try.prog 11 = some 1 := by kernel_rfl
theorem aggo11 : aggo Try.prog 11 = some false := by kernel_rfl
theorem zero11 : zeroL Try.prog 11 = some ([.v (.string ByteArray.empty)]) := by kernel_rfl
theorem und11 : Try.prog.underlying 11 = some .string := by kernel_rfl
theorem szo12 : szo Try.prog 12 = some 1 := by kernel_rfl
theorem aggo12 : aggo Try.prog 12 = some false := by kernel_rfl
theorem zero12 : zeroL Try.prog 12 = some ([.v (.int .u64 0)]) := by kernel_rfl
theorem und12 : Try.prog.underlying 12 = some (.int .u64) := by kernel_rfl
theorem szo13 : szo Try.prog 13 = some 2 := by kernel_rfl
theorem aggo13 : aggo Try.prog 13 = some true := by kernel_rfl
theorem zero13 : zeroL Try.prog 13 = some ([.v (.string ByteArray.empty), .v (.int .u64 0)]) := by kernel_rfl
theorem bld13 : bld Try.prog 13 = some (.st [(0, 1), (1, 1)]) := by kernel_rfl
theorem foff13_0 : foff Try.prog 13 0 = some 0 := by kernel_rfl
theorem ftyp13_0 : ftyp Try.prog 13 0 = some (9, 0) := by kernel_rfl
theorem foff13_1 : foff Try.prog 13 1 = some 1 := by kernel_rfl
theorem ftyp13_1 : ftyp Try.prog 13 1 = some (12, 1) := by kernel_rfl
theorem szo14 : szo Try.prog 14 = some 2 := by kernel_rfl
theorem aggo14 : aggo Try.prog 14 = some true := by kernel_rfl
theorem zero14 : zeroL Try.prog 14 = some ([.v (.string ByteArray.empty), .v (.int .u64 0)]) := by kernel_rfl
theorem bld14 : bld Try.prog 14 = some (.st [(0, 1), (1, 1)]) := by kernel_rfl
theorem foff14_0 : foff Try.prog 14 0 = some 0 := by kernel_rfl
theorem ftyp14_0 : ftyp Try.prog 14 0 = some (9, 0) := by kernel_rfl
theorem foff14_1 : foff Try.prog 14 1 = some 1 := by kernel_rfl
theorem ftyp14_1 : ftyp Try.prog 14 1 = some (12, 1) := by kernel_rfl
theorem szo15 : szo Try.prog 15 = some 1 := by kernel_rfl
theorem aggo15 : aggo Try.prog 15 = some false := by kernel_rfl
theorem zero15 : zeroL Try.prog 15 = some ([.v (.pointer none)]) := by kernel_rfl
theorem szo16 : szo Try.prog 16 = some 1 := by kernel_rfl
theorem aggo16 : aggo Try.prog 16 = some false := by kernel_rfl
theorem zero16 : zeroL Try.prog 16 = some ([.v (.pointer none)]) := by kernel_rfl
theorem szo17 : szo Try.prog 17 = some 1 := by kernel_rfl
theorem aggo17 : aggo Try.prog 17 = some false := by kernel_rfl
theorem zero17 : zeroL Try.prog 17 = some ([.v (.pointer none)]) := by kernel_rfl
theorem szo18 : szo Try.prog 18 = some 1 := by kernel_rfl
theorem aggo18 : aggo Try.prog 18 = some true := by kernel_rfl
theorem zero18 : zeroL Try.prog 18 = some ([.v (.pointer none)]) := by kernel_rfl
theorem bld18 : bld Try.prog 18 = some (.st [(0, 1)]) := by kernel_rfl
theorem foff18_0 : foff Try.prog 18 0 = some 0 := by kernel_rfl
theorem ftyp18_0 : ftyp Try.prog 18 0 = some (17, 0) := by kernel_rfl
theorem szo19 : szo Try.prog 19 = some 1 := by kernel_rfl
theorem aggo19 : aggo Try.prog 19 = some true := by kernel_rfl
theorem zero19 : zeroL Try.prog 19 = some ([.v (.pointer none)]) := by kernel_rfl
theorem bld19 : bld Try.prog 19 = some (.st [(0, 1)]) := by kernel_rfl
theorem foff19_0 : foff Try.prog 19 0 = some 0 := by kernel_rfl
theorem ftyp19_0 : ftyp Try.prog 19 0 = some (17, 0) := by kernel_rfl
theorem szo21 : szo Try.prog 21 = some 1 := by kernel_rfl
theorem aggo21 : aggo Try.prog 21 = some false := by kernel_rfl
theorem zero21 : zeroL Try.prog 21 = some ([.v (.int .i32 0)]) := by kernel_rfl
theorem und21 : Try.prog.underlying 21 = some (.int .i32) := by kernel_rfl
theorem szo22 : szo Try.prog 22 = some 1 := by kernel_rfl
theorem aggo22 : aggo Try.prog 22 = some false := by kernel_rfl
theorem zero22 : zeroL Try.prog 22 = some ([.v (.slice none 0 0)]) := by kernel_rfl
theorem rowo22 : rowo Try.prog 22 = some (false, 0, 12) := by kernel_rfl
theorem slo22 : slo Try.prog 22 = some (63, 12, 24) := by kernel_rfl
theorem slTy22 : slTy Try.prog 22 = true := by kernel_rfl
theorem szo26 : szo Try.prog 26 = some 1 := by kernel_rfl
theorem aggo26 : aggo Try.prog 26 = some false := by kernel_rfl
theorem zero26 : zeroL Try.prog 26 = some ([.v (.slice none 0 0)]) := by kernel_rfl
theorem rowo26 : rowo Try.prog 26 = some (false, 0, 12) := by kernel_rfl
theorem slo26 : slo Try.prog 26 = some (64, 12, 24) := by kernel_rfl
theorem slTy26 : slTy Try.prog 26 = true := by kernel_rfl
theorem szo27 : szo Try.prog 27 = some 1 := by kernel_rfl
theorem aggo27 : aggo Try.prog 27 = some false := by kernel_rfl
theorem zero27 : zeroL Try.prog 27 = some ([.v (.slice none 0 0)]) := by kernel_rfl
theorem rowo27 : rowo Try.prog 27 = some (false, 0, 12) := by kernel_rfl
theorem slo27 : slo Try.prog 27 = some (64, 12, 24) := by kernel_rfl
theorem slTy27 : slTy Try.prog 27 = true := by kernel_rfl
theorem szo31 : szo Try.prog 31 = some 1 := by kernel_rfl
theorem aggo31 : aggo Try.prog 31 = some false := by kernel_rfl
theorem zero31 : zeroL Try.prog 31 = some ([.v (.slice none 0 0)]) := by kernel_rfl
theorem rowo31 : rowo Try.prog 31 = some (false, 0, 2) := by kernel_rfl
theorem slo31 : slo Try.prog 31 = some (69, 2, 16) := by kernel_rfl
theorem slTy31 : slTy Try.prog 31 = true := by kernel_rfl
theorem szo41 : szo Try.prog 41 = some 1 := by kernel_rfl
theorem aggo41 : aggo Try.prog 41 = some false := by kernel_rfl
theorem zero41 : zeroL Try.prog 41 = some ([.v (.slice none 0 0)]) := by kernel_rfl
theorem rowo41 : rowo Try.prog 41 = some (false, 0, 1) := by kernel_rfl
theorem slo41 : slo Try.prog 41 = some (2, 1, 8) := by kernel_rfl
theorem slTy41 : slTy Try.prog 41 = true := by kernel_rfl
theorem szo62 : szo Try.prog 62 = some 1 := by kernel_rfl
theorem aggo62 : aggo Try.prog 62 = some false := by kernel_rfl
theorem zero62 : zeroL Try.prog 62 = some ([.v (.int .u16 0)]) := by kernel_rfl
theorem und62 : Try.prog.underlying 62 = some (.int .u16) := by kernel_rfl
theorem szo63 : szo Try.prog 63 = some 12 := by kernel_rfl
theorem aggo63 : aggo Try.prog 63 = some true := by kernel_rfl
theorem zero63 : zeroL Try.prog 63 = some (List.replicate 12 (.v (.int .u16 0))) := by kernel_rfl
theorem rowo63 : rowo Try.prog 63 = some (true, 12, 1) := by kernel_rfl
theorem etyp63 : etyp Try.prog 63 = some (12, 62, 1) := by kernel_rfl
theorem bld63 : bld Try.prog 63 = some (.ar 1) := by kernel_rfl
theorem eqo63 : eqo Try.prog 63 = some (List.replicate 12 (.i .u16)) := by kernel_rfl
theorem szo64 : szo Try.prog 64 = some 12 := by kernel_rfl
theorem aggo64 : aggo Try.prog 64 = some true := by kernel_rfl
theorem zero64 : zeroL Try.prog 64 = some (List.replicate 12 (.v (.int .u16 0))) := by kernel_rfl
theorem rowo64 : rowo Try.prog 64 = some (true, 12, 1) := by kernel_rfl
theorem etyp64 : etyp Try.prog 64 = some (12, 62, 1) := by kernel_rfl
theorem bld64 : bld Try.prog 64 = some (.ar 1) := by kernel_rfl
theorem eqo64 : eqo Try.prog 64 = some (List.replicate 12 (.i .u16)) := by kernel_rfl
theorem szo69 : szo Try.prog 69 = some 2 := by kernel_rfl
theorem aggo69 : aggo Try.prog 69 = some true := by kernel_rfl
theorem zero69 : zeroL Try.prog 69 = some ([.v (.int .i64 0), .v (.int .i64 0)]) := by kernel_rfl
theorem rowo69 : rowo Try.prog 69 = some (true, 2, 1) := by kernel_rfl
theorem etyp69 : etyp Try.prog 69 = some (2, 2, 1) := by kernel_rfl
theorem bld69 : bld Try.prog 69 = some (.ar 1) := by kernel_rfl
theorem eqo69 : eqo Try.prog 69 = some [.i .i64, .i .i64] := by kernel_rfl
theorem szo77 : szo Try.prog 77 = some 1 := by kernel_rfl
theorem aggo77 : aggo Try.prog 77 = some false := by kernel_rfl
theorem zero77 : zeroL Try.prog 77 = some ([.v (.slice none 0 0)]) := by kernel_rfl
theorem rowo77 : rowo Try.prog 77 = some (false, 0, 1) := by kernel_rfl
theorem slo77 : slo Try.prog 77 = some (4, 1, 1) := by kernel_rfl
theorem slTy77 : slTy Try.prog 77 = true := by kernel_rfl
theorem szo80 : szo Try.prog 80 = some 1 := by kernel_rfl
theorem aggo80 : aggo Try.prog 80 = some false := by kernel_rfl
theorem zero80 : zeroL Try.prog 80 = some ([.v (.slice none 0 0)]) := by kernel_rfl
theorem rowo80 : rowo Try.prog 80 = some (false, 0, 1) := by kernel_rfl
theorem slo80 : slo Try.prog 80 = some (3, 1, 8) := by kernel_rfl
theorem slTy80 : slTy Try.prog 80 = true := by kernel_rfl
theorem szo88 : szo Try.prog 88 = some 1 := by kernel_rfl
theorem aggo88 : aggo Try.prog 88 = some false := by kernel_rfl
theorem zero88 : zeroL Try.prog 88 = some ([.v (.int .u64 0)]) := by kernel_rfl
theorem und88 : Try.prog.underlying 88 = some (.int .u64) := by kernel_rfl
theorem szo98 : szo Try.prog 98 = some 8 := by kernel_rfl
theorem aggo98 : aggo Try.prog 98 = some true := by kernel_rfl
theorem zero98 : zeroL Try.prog 98 = some (List.replicate 8 (.v (.int .i64 0))) := by kernel_rfl
theorem rowo98 : rowo Try.prog 98 = some (true, 8, 1) := by kernel_rfl
theorem etyp98 : etyp Try.prog 98 = some (8, 2, 1) := by kernel_rfl
theorem bld98 : bld Try.prog 98 = some (.ar 1) := by kernel_rfl
theorem eqo98 : eqo Try.prog 98 = some (List.replicate 8 (.i .i64)) := by kernel_rfl
theorem szo99 : szo Try.prog 99 = some 64 := by kernel_rfl
theorem aggo99 : aggo Try.prog 99 = some true := by kernel_rfl
theorem zero99 : zeroL Try.prog 99 = some (List.replicate 64 (.v (.int .i64 0))) := by kernel_rfl
theorem rowo99 : rowo Try.prog 99 = some (true, 8, 8) := by kernel_rfl
theorem etyp99 : etyp Try.prog 99 = some (8, 98, 8) := by kernel_rfl
theorem bld99 : bld Try.prog 99 = some (.ar 8) := by kernel_rfl
theorem eqo99 : eqo Try.prog 99 = some (List.replicate 64 (.i .i64)) := by kernel_rfl
theorem szo102 : szo Try.prog 102 = some 1 := by kernel_rfl
theorem aggo102 : aggo Try.prog 102 = some false := by kernel_rfl
theorem zero102 : zeroL Try.prog 102 = some ([.v (.pointer none)]) := by kernel_rfl
theorem szo103 : szo Try.prog 103 = some 1 := by kernel_rfl
theorem aggo103 : aggo Try.prog 103 = some false := by kernel_rfl
theorem zero103 : zeroL Try.prog 103 = some ([.v (.pointer none)]) := by kernel_rfl
theorem szo104 : szo Try.prog 104 = some 3 := by kernel_rfl
theorem aggo104 : aggo Try.prog 104 = some true := by kernel_rfl
theorem zero104 : zeroL Try.prog 104 = some ([.v (.slice none 0 0), .v (.slice none 0 0), .v (.int .i64 0)]) := by kernel_rfl
theorem bld104 : bld Try.prog 104 = some (.st [(0, 1), (1, 1), (2, 1)]) := by kernel_rfl
theorem foff104_0 : foff Try.prog 104 0 = some 0 := by kernel_rfl
theorem ftyp104_0 : ftyp Try.prog 104 0 = some (27, 0) := by kernel_rfl
theorem foff104_1 : foff Try.prog 104 1 = some 1 := by kernel_rfl
theorem ftyp104_1 : ftyp Try.prog 104 1 = some (41, 1) := by kernel_rfl
theorem foff104_2 : foff Try.prog 104 2 = some 2 := by kernel_rfl
theorem ftyp104_2 : ftyp Try.prog 104 2 = some (2, 2) := by kernel_rfl
theorem szo105 : szo Try.prog 105 = some 3 := by kernel_rfl
theorem aggo105 : aggo Try.prog 105 = some true := by kernel_rfl
theorem zero105 : zeroL Try.prog 105 = some ([.v (.slice none 0 0), .v (.slice none 0 0), .v (.int .i64 0)]) := by kernel_rfl
theorem bld105 : bld Try.prog 105 = some (.st [(0, 1), (1, 1), (2, 1)]) := by kernel_rfl
theorem foff105_0 : foff Try.prog 105 0 = some 0 := by kernel_rfl
theorem ftyp105_0 : ftyp Try.prog 105 0 = some (27, 0) := by kernel_rfl
theorem foff105_1 : foff Try.prog 105 1 = some 1 := by kernel_rfl
theorem ftyp105_1 : ftyp Try.prog 105 1 = some (41, 1) := by kernel_rfl
theorem foff105_2 : foff Try.prog 105 2 = some 2 := by kernel_rfl
theorem ftyp105_2 : ftyp Try.prog 105 2 = some (2, 2) := by kernel_rfl
theorem szo119 : szo Try.prog 119 = some 1 := by kernel_rfl
theorem aggo119 : aggo Try.prog 119 = some false := by kernel_rfl
theorem zero119 : zeroL Try.prog 119 = some ([.v (.pointer none)]) := by kernel_rfl
theorem szo125 : szo Try.prog 125 = some 2 := by kernel_rfl
theorem aggo125 : aggo Try.prog 125 = some true := by kernel_rfl
theorem zero125 : zeroL Try.prog 125 = some ([.v (.slice none 0 0), .v (.slice none 0 0)]) := by kernel_rfl
theorem rowo125 : rowo Try.prog 125 = some (true, 2, 1) := by kernel_rfl
theorem etyp125 : etyp Try.prog 125 = some (2, 27, 1) := by kernel_rfl
theorem bld125 : bld Try.prog 125 = some (.ar 1) := by kernel_rfl
theorem szo129 : szo Try.prog 129 = some 1 := by kernel_rfl
theorem aggo129 : aggo Try.prog 129 = some false := by kernel_rfl
theorem zero129 : zeroL Try.prog 129 = some ([.v (.slice none 0 0)]) := by kernel_rfl
theorem rowo129 : rowo Try.prog 129 = some (false, 0, 2) := by kernel_rfl
theorem slo129 : slo Try.prog 129 = some (134, 2, 2) := by kernel_rfl
theorem slTy129 : slTy Try.prog 129 = true := by kernel_rfl
theorem szo132 : szo Try.prog 132 = some 1 := by kernel_rfl
theorem aggo132 : aggo Try.prog 132 = some false := by kernel_rfl
theorem zero132 : zeroL Try.prog 132 = some ([.v (.int .i8 0)]) := by kernel_rfl
theorem und132 : Try.prog.underlying 132 = some (.int .i8) := by kernel_rfl
theorem szo133 : szo Try.prog 133 = some 2 := by kernel_rfl
theorem aggo133 : aggo Try.prog 133 = some true := by kernel_rfl
theorem zero133 : zeroL Try.prog 133 = some ([.v (.int .i8 0), .v (.int .i8 0)]) := by kernel_rfl
theorem bld133 : bld Try.prog 133 = some (.st [(0, 1), (1, 1)]) := by kernel_rfl
theorem foff133_0 : foff Try.prog 133 0 = some 0 := by kernel_rfl
theorem ftyp133_0 : ftyp Try.prog 133 0 = some (132, 0) := by kernel_rfl
theorem foff133_1 : foff Try.prog 133 1 = some 1 := by kernel_rfl
theorem ftyp133_1 : ftyp Try.prog 133 1 = some (132, 1) := by kernel_rfl
theorem eqo133 : eqo Try.prog 133 = some [.i .i8, .i .i8] := by kernel_rfl
theorem szo134 : szo Try.prog 134 = some 2 := by kernel_rfl
theorem aggo134 : aggo Try.prog 134 = some true := by kernel_rfl
theorem zero134 : zeroL Try.prog 134 = some ([.v (.int .i8 0), .v (.int .i8 0)]) := by kernel_rfl
theorem bld134 : bld Try.prog 134 = some (.st [(0, 1), (1, 1)]) := by kernel_rfl
theorem foff134_0 : foff Try.prog 134 0 = some 0 := by kernel_rfl
theorem ftyp134_0 : ftyp Try.prog 134 0 = some (132, 0) := by kernel_rfl
theorem foff134_1 : foff Try.prog 134 1 = some 1 := by kernel_rfl
theorem ftyp134_1 : ftyp Try.prog 134 1 = some (132, 1) := by kernel_rfl
theorem eqo134 : eqo Try.prog 134 = some [.i .i8, .i .i8] := by kernel_rfl
theorem szo152 : szo Try.prog 152 = some 1 := by kernel_rfl
theorem aggo152 : aggo Try.prog 152 = some false := by kernel_rfl
theorem zero152 : zeroL Try.prog 152 = some ([.v (.slice none 0 0)]) := by kernel_rfl
theorem rowo152 : rowo Try.prog 152 = some (false, 0, 1) := by kernel_rfl
theorem slo152 : slo Try.prog 152 = some (62, 1, 2) := by kernel_rfl
theorem slTy152 : slTy Try.prog 152 = true := by kernel_rfl
theorem szo156 : szo Try.prog 156 = some 1 := by kernel_rfl
theorem aggo156 : aggo Try.prog 156 = some false := by kernel_rfl
theorem zero156 : zeroL Try.prog 156 = some ([.v (.int .i64 0)]) := by kernel_rfl
theorem und156 : Try.prog.underlying 156 = some (.int .i64) := by kernel_rfl
theorem szo164 : szo Try.prog 164 = some 1 := by kernel_rfl
theorem aggo164 : aggo Try.prog 164 = some false := by kernel_rfl
theorem zero164 : zeroL Try.prog 164 = some ([.v (.int .u32 0)]) := by kernel_rfl
theorem und164 : Try.prog.underlying 164 = some (.int .u32) := by kernel_rfl
theorem szo166 : szo Try.prog 166 = some 1 := by kernel_rfl
theorem aggo166 : aggo Try.prog 166 = some false := by kernel_rfl
theorem zero166 : zeroL Try.prog 166 = some ([.v (.int .u64 0)]) := by kernel_rfl
theorem und166 : Try.prog.underlying 166 = some (.int .u64) := by kernel_rfl
theorem szo168 : szo Try.prog 168 = some 1 := by kernel_rfl
theorem aggo168 : aggo Try.prog 168 = some false := by kernel_rfl
theorem zero168 : zeroL Try.prog 168 = some ([.v (.int .u64 0)]) := by kernel_rfl
theorem und168 : Try.prog.underlying 168 = some (.int .u64) := by kernel_rfl
theorem szo172 : szo Try.prog 172 = some 1 := by kernel_rfl
theorem aggo172 : aggo Try.prog 172 = some false := by kernel_rfl
theorem zero172 : zeroL Try.prog 172 = some ([.v (.pointer none)]) := by kernel_rfl
theorem szo174 : szo Try.prog 174 = some 1 := by kernel_rfl
theorem aggo174 : aggo Try.prog 174 = some false := by kernel_rfl
theorem zero174 : zeroL Try.prog 174 = some ([.v (.pointer none)]) := by kernel_rfl
theorem szo178 : szo Try.prog 178 = some 4 := by kernel_rfl
theorem aggo178 : aggo Try.prog 178 = some true := by kernel_rfl
theorem zero178 : zeroL Try.prog 178 = some ([.v (.pointer none), .v (.pointer none), .v (.pointer none), .v (.string ByteArray.empty)]) := by kernel_rfl
theorem bld178 : bld Try.prog 178 = some (.st [(0, 1), (1, 1), (2, 1), (3, 1)]) := by kernel_rfl
theorem foff178_0 : foff Try.prog 178 0 = some 0 := by kernel_rfl
theorem ftyp178_0 : ftyp Try.prog 178 0 = some (17, 0) := by kernel_rfl
theorem foff178_1 : foff Try.prog 178 1 = some 1 := by kernel_rfl
theorem ftyp178_1 : ftyp Try.prog 178 1 = some (17, 1) := by kernel_rfl
theorem foff178_2 : foff Try.prog 178 2 = some 2 := by kernel_rfl
theorem ftyp178_2 : ftyp Try.prog 178 2 = some (17, 2) := by kernel_rfl
theorem foff178_3 : foff Try.prog 178 3 = some 3 := by kernel_rfl
theorem ftyp178_3 : ftyp Try.prog 178 3 = some (9, 3) := by kernel_rfl
theorem szo179 : szo Try.prog 179 = some 4 := by kernel_rfl
theorem aggo179 : aggo Try.prog 179 = some true := by kernel_rfl
theorem zero179 : zeroL Try.prog 179 = some ([.v (.pointer none), .v (.pointer none), .v (.pointer none), .v (.string ByteArray.empty)]) := by kernel_rfl
theorem bld179 : bld Try.prog 179 = some (.st [(0, 1), (1, 1), (2, 1), (3, 1)]) := by kernel_rfl
theorem foff179_0 : foff Try.prog 179 0 = some 0 := by kernel_rfl
theorem ftyp179_0 : ftyp Try.prog 179 0 = some (17, 0) := by kernel_rfl
theorem foff179_1 : foff Try.prog 179 1 = some 1 := by kernel_rfl
theorem ftyp179_1 : ftyp Try.prog 179 1 = some (17, 1) := by kernel_rfl
theorem foff179_2 : foff Try.prog 179 2 = some 2 := by kernel_rfl
theorem ftyp179_2 : ftyp Try.prog 179 2 = some (17, 2) := by kernel_rfl
theorem foff179_3 : foff Try.prog 179 3 = some 3 := by kernel_rfl
theorem ftyp179_3 : ftyp Try.prog 179 3 = some (9, 3) := by kernel_rfl
theorem szo180 : szo Try.prog 180 = some 0 := by kernel_rfl
theorem aggo180 : aggo Try.prog 180 = some true := by kernel_rfl
theorem zero180 : zeroL Try.prog 180 = some ([]) := by kernel_rfl
theorem rowo180 : rowo Try.prog 180 = some (true, 0, 1) := by kernel_rfl
theorem etyp180 : etyp Try.prog 180 = some (0, 16, 1) := by kernel_rfl
theorem bld180 : bld Try.prog 180 = some (.ar 1) := by kernel_rfl
theorem szo181 : szo Try.prog 181 = some 0 := by kernel_rfl
theorem aggo181 : aggo Try.prog 181 = some true := by kernel_rfl
theorem zero181 : zeroL Try.prog 181 = some ([]) := by kernel_rfl
theorem bld181 : bld Try.prog 181 = some (.st [(0, 0)]) := by kernel_rfl
theorem ftyp181_0 : ftyp Try.prog 181 0 = some (180, 0) := by kernel_rfl
theorem szo182 : szo Try.prog 182 = some 0 := by kernel_rfl
theorem aggo182 : aggo Try.prog 182 = some true := by kernel_rfl
theorem zero182 : zeroL Try.prog 182 = some ([]) := by kernel_rfl
theorem bld182 : bld Try.prog 182 = some (.st [(0, 0)]) := by kernel_rfl
theorem ftyp182_0 : ftyp Try.prog 182 0 = some (180, 0) := by kernel_rfl
theorem szo184 : szo Try.prog 184 = some 1 := by kernel_rfl
theorem aggo184 : aggo Try.prog 184 = some false := by kernel_rfl
theorem zero184 : zeroL Try.prog 184 = some ([.v (.int .u8 0)]) := by kernel_rfl
theorem und184 : Try.prog.underlying 184 = some (.int .u8) := by kernel_rfl
theorem szo185 : szo Try.prog 185 = some 1 := by kernel_rfl
theorem aggo185 : aggo Try.prog 185 = some false := by kernel_rfl
theorem zero185 : zeroL Try.prog 185 = some ([.v (.int .u8 0)]) := by kernel_rfl
theorem und185 : Try.prog.underlying 185 = some (.int .u8) := by kernel_rfl
theorem szo187 : szo Try.prog 187 = some 1 := by kernel_rfl
theorem aggo187 : aggo Try.prog 187 = some false := by kernel_rfl
theorem zero187 : zeroL Try.prog 187 = some ([.v (.pointer none)]) := by kernel_rfl
theorem szo188 : szo Try.prog 188 = some 1 := by kernel_rfl
theorem aggo188 : aggo Try.prog 188 = some false := by kernel_rfl
theorem zero188 : zeroL Try.prog 188 = some ([.v (.int .i32 0)]) := by kernel_rfl
theorem und188 : Try.prog.underlying 188 = some (.int .i32) := by kernel_rfl
theorem szo189 : szo Try.prog 189 = some 1 := by kernel_rfl
theorem aggo189 : aggo Try.prog 189 = some false := by kernel_rfl
theorem zero189 : zeroL Try.prog 189 = some ([.v (.int .i32 0)]) := by kernel_rfl
theorem und189 : Try.prog.underlying 189 = some (.int .i32) := by kernel_rfl
theorem szo190 : szo Try.prog 190 = some 11 := by kernel_rfl
theorem aggo190 : aggo Try.prog 190 = some true := by kernel_rfl
theorem zero190 : zeroL Try.prog 190 = some ([.v (.int .u64 0), .v (.int .u64 0), .v (.int .u32 0), .v (.int .u8 0), .v (.int .u8 0), .v (.int .u8 0), .v (.int .u8 0), .v .nilFunc, .v (.pointer none), .v (.int .i32 0), .v (.int .i32 0)]) := by kernel_rfl
theorem foff190_0 : foff Try.prog 190 0 = some 0 := by kernel_rfl
theorem ftyp190_0 : ftyp Try.prog 190 0 = some (12, 0) := by kernel_rfl
theorem foff190_1 : foff Try.prog 190 1 = some 1 := by kernel_rfl
theorem ftyp190_1 : ftyp Try.prog 190 1 = some (12, 1) := by kernel_rfl
theorem foff190_2 : foff Try.prog 190 2 = some 2 := by kernel_rfl
theorem ftyp190_2 : ftyp Try.prog 190 2 = some (164, 2) := by kernel_rfl
theorem foff190_3 : foff Try.prog 190 3 = some 3 := by kernel_rfl
theorem ftyp190_3 : ftyp Try.prog 190 3 = some (184, 3) := by kernel_rfl
theorem foff190_4 : foff Try.prog 190 4 = some 4 := by kernel_rfl
theorem ftyp190_4 : ftyp Try.prog 190 4 = some (5, 4) := by kernel_rfl
theorem foff190_5 : foff Try.prog 190 5 = some 5 := by kernel_rfl
theorem ftyp190_5 : ftyp Try.prog 190 5 = some (5, 5) := by kernel_rfl
theorem foff190_6 : foff Try.prog 190 6 = some 6 := by kernel_rfl
theorem ftyp190_6 : ftyp Try.prog 190 6 = some (185, 6) := by kernel_rfl
theorem foff190_8 : foff Try.prog 190 8 = some 8 := by kernel_rfl
theorem ftyp190_8 : ftyp Try.prog 190 8 = some (187, 8) := by kernel_rfl
theorem foff190_9 : foff Try.prog 190 9 = some 9 := by kernel_rfl
theorem ftyp190_9 : ftyp Try.prog 190 9 = some (188, 9) := by kernel_rfl
theorem foff190_10 : foff Try.prog 190 10 = some 10 := by kernel_rfl
theorem ftyp190_10 : ftyp Try.prog 190 10 = some (189, 10) := by kernel_rfl
theorem szo191 : szo Try.prog 191 = some 11 := by kernel_rfl
theorem aggo191 : aggo Try.prog 191 = some true := by kernel_rfl
theorem zero191 : zeroL Try.prog 191 = some ([.v (.int .u64 0), .v (.int .u64 0), .v (.int .u32 0), .v (.int .u8 0), .v (.int .u8 0), .v (.int .u8 0), .v (.int .u8 0), .v .nilFunc, .v (.pointer none), .v (.int .i32 0), .v (.int .i32 0)]) := by kernel_rfl
theorem foff191_0 : foff Try.prog 191 0 = some 0 := by kernel_rfl
theorem ftyp191_0 : ftyp Try.prog 191 0 = some (12, 0) := by kernel_rfl
theorem foff191_1 : foff Try.prog 191 1 = some 1 := by kernel_rfl
theorem ftyp191_1 : ftyp Try.prog 191 1 = some (12, 1) := by kernel_rfl
theorem foff191_2 : foff Try.prog 191 2 = some 2 := by kernel_rfl
theorem ftyp191_2 : ftyp Try.prog 191 2 = some (164, 2) := by kernel_rfl
theorem foff191_3 : foff Try.prog 191 3 = some 3 := by kernel_rfl
theorem ftyp191_3 : ftyp Try.prog 191 3 = some (184, 3) := by kernel_rfl
theorem foff191_4 : foff Try.prog 191 4 = some 4 := by kernel_rfl
theorem ftyp191_4 : ftyp Try.prog 191 4 = some (5, 4) := by kernel_rfl
theorem foff191_5 : foff Try.prog 191 5 = some 5 := by kernel_rfl
theorem ftyp191_5 : ftyp Try.prog 191 5 = some (5, 5) := by kernel_rfl
theorem foff191_6 : foff Try.prog 191 6 = some 6 := by kernel_rfl
theorem ftyp191_6 : ftyp Try.prog 191 6 = some (185, 6) := by kernel_rfl
theorem foff191_8 : foff Try.prog 191 8 = some 8 := by kernel_rfl
theorem ftyp191_8 : ftyp Try.prog 191 8 = some (187, 8) := by kernel_rfl
theorem foff191_9 : foff Try.prog 191 9 = some 9 := by kernel_rfl
theorem ftyp191_9 : ftyp Try.prog 191 9 = some (188, 9) := by kernel_rfl
theorem foff191_10 : foff Try.prog 191 10 = some 10 := by kernel_rfl
theorem ftyp191_10 : ftyp Try.prog 191 10 = some (189, 10) := by kernel_rfl
attribute [go_sem] szo2 aggo2 zero2 und2 szo3 aggo3 zero3 und3 szo4 aggo4 zero4 und4 szo5 aggo5 zero5 und5 szo6 aggo6 zero6 und6 szo7 aggo7 zero7 bld7 foff7_0 ftyp7_0 foff7_1 ftyp7_1 foff7_2 ftyp7_2 foff7_3 ftyp7_3 eqo7 szo8 aggo8 zero8 bld8 foff8_0 ftyp8_0 foff8_1 ftyp8_1 foff8_2 ftyp8_2 foff8_3 ftyp8_3 eqo8 szo9 aggo9 zero9 und9 szo10 aggo10 zero10 und10 szo11 aggo11 zero11 und11 szo12 aggo12 zero12 und12 szo13 aggo13 zero13 bld13 foff13_0 ftyp13_0 foff13_1 ftyp13_1 szo14 aggo14 zero14 bld14 foff14_0 ftyp14_0 foff14_1 ftyp14_1 szo15 aggo15 zero15 szo16 aggo16 zero16 szo17 aggo17 zero17 szo18 aggo18 zero18 bld18 foff18_0 ftyp18_0 szo19 aggo19 zero19 bld19 foff19_0 ftyp19_0 szo21 aggo21 zero21 und21 szo22 aggo22 zero22 rowo22 slo22 slTy22 szo26 aggo26 zero26 rowo26 slo26 slTy26 szo27 aggo27 zero27 rowo27 slo27 slTy27 szo31 aggo31 zero31 rowo31 slo31 slTy31 szo41 aggo41 zero41 rowo41 slo41 slTy41 szo62 aggo62 zero62 und62 szo63 aggo63 zero63 rowo63 etyp63 bld63 eqo63 szo64 aggo64 zero64 rowo64 etyp64 bld64 eqo64 szo69 aggo69 zero69 rowo69 etyp69 bld69 eqo69 szo77 aggo77 zero77 rowo77 slo77 slTy77 szo80 aggo80 zero80 rowo80 slo80 slTy80 szo88 aggo88 zero88 und88 szo98 aggo98 zero98 rowo98 etyp98 bld98 eqo98 szo99 aggo99 zero99 rowo99 etyp99 bld99 eqo99 szo102 aggo102 zero102 szo103 aggo103 zero103 szo104 aggo104 zero104 bld104 foff104_0 ftyp104_0 foff104_1 ftyp104_1 foff104_2 ftyp104_2 szo105 aggo105 zero105 bld105 foff105_0 ftyp105_0 foff105_1 ftyp105_1 foff105_2 ftyp105_2 szo119 aggo119 zero119 szo125 aggo125 zero125 rowo125 etyp125 bld125 szo129 aggo129 zero129 rowo129 slo129 slTy129 szo132 aggo132 zero132 und132 szo133 aggo133 zero133 bld133 foff133_0 ftyp133_0 foff133_1 ftyp133_1 eqo133 szo134 aggo134 zero134 bld134 foff134_0 ftyp134_0 foff134_1 ftyp134_1 eqo134 szo152 aggo152 zero152 rowo152 slo152 slTy152 szo156 aggo156 zero156 und156 szo164 aggo164 zero164 und164 szo166 aggo166 zero166 und166 szo168 aggo168 zero168 und168 szo172 aggo172 zero172 szo174 aggo174 zero174 szo178 aggo178 zero178 bld178 foff178_0 ftyp178_0 foff178_1 ftyp178_1 foff178_2 ftyp178_2 foff178_3 ftyp178_3 szo179 aggo179 zero179 bld179 foff179_0 ftyp179_0 foff179_1 ftyp179_1 foff179_2 ftyp179_2 foff179_3 ftyp179_3 szo180 aggo180 zero180 rowo180 etyp180 bld180 szo181 aggo181 zero181 bld181 ftyp181_0 szo182 aggo182 zero182 bld182 ftyp182_0 szo184 aggo184 zero184 und184 szo185 aggo185 zero185 und185 szo187 aggo187 zero187 szo188 aggo188 zero188 und188 szo189 aggo189 zero189 und189 szo190 aggo190 zero190 foff190_0 ftyp190_0 foff190_1 ftyp190_1 foff190_2 ftyp190_2 foff190_3 ftyp190_3 foff190_4 ftyp190_4 foff190_5 ftyp190_5 foff190_6 ftyp190_6 foff190_8 ftyp190_8 foff190_9 ftyp190_9 foff190_10 ftyp190_10 szo191 aggo191 zero191 foff191_0 ftyp191_0 foff191_1 ftyp191_1 foff191_2 ftyp191_2 foff191_3 ftyp191_3 foff191_4 ftyp191_4 foff191_5 ftyp191_5 foff191_6 ftyp191_6 foff191_8 ftyp191_8 foff191_9 ftyp191_9 foff191_10 ftyp191_10
theorem mixed : Try.prog.follows .mixedOrders = true := by kernel_rfl
end Go.Proofs.Ytjkkallcgplgmaa

