/- What the types of the translated program are, as the walk asks for it. -/
import Derived.KernelRfl
import Derived.Test.YtaekjojblkhfdaaGreatDoorProg
import Derived.Test.YtaekjojblkhfdaaGreatDoorLC
set_option linter.unusedVariables false
set_option linter.unusedSimpArgs false
set_option maxRecDepth 8000
set_option maxHeartbeats 16000000
namespace Go.Proofs.YtaekjojblkhfdaaGreatDoor
open Go Go.Sx
theorem szo2 : szo Tryz.prog 2 = some 1 := by kernel_rfl
theorem aggo2 : aggo Tryz.prog 2 = some false := by kernel_rfl
theorem zero2 : zeroL Tryz.prog 2 = some ([.v (.int .i64 0)]) := by kernel_rfl
theorem und2 : Tryz.prog.underlying 2 = some (.int .i64) := by kernel_rfl
theorem szo3 : szo Tryz.prog 3 = some 1 := by kernel_rfl
theorem aggo3 : aggo Tryz.prog 3 = some false := by kernel_rfl
theorem zero3 : zeroL Tryz.prog 3 = some ([.v (.int .i64 0)]) := by kernel_rfl
theorem und3 : Tryz.prog.underlying 3 = some (.int .i64) := by kernel_rfl
theorem szo4 : szo Tryz.prog 4 = some 1 := by kernel_rfl
theorem aggo4 : aggo Tryz.prog 4 = some false := by kernel_rfl
theorem zero4 : zeroL Tryz.prog 4 = some ([.v (.bool false)]) := by kernel_rfl
theorem szo5 : szo Tryz.prog 5 = some 1 := by kernel_rfl
theorem aggo5 : aggo Tryz.prog 5 = some false := by kernel_rfl
theorem und5 : Tryz.prog.underlying 5 = some (.int .u8) := by kernel_rfl
theorem szo9 : szo Tryz.prog 9 = some 1 := by kernel_rfl
theorem aggo9 : aggo Tryz.prog 9 = some false := by kernel_rfl
theorem zero9 : zeroL Tryz.prog 9 = some ([.v (.string ByteArray.empty)]) := by kernel_rfl
theorem und9 : Tryz.prog.underlying 9 = some .string := by kernel_rfl
theorem szo22 : szo Tryz.prog 22 = some 1 := by kernel_rfl
theorem aggo22 : aggo Tryz.prog 22 = some false := by kernel_rfl
theorem rowo22 : rowo Tryz.prog 22 = some (false, 0, 1) := by kernel_rfl
theorem slTy22 : slTy Tryz.prog 22 = true := by kernel_rfl
theorem rowo24 : rowo Tryz.prog 24 = some (false, 0, 12) := by kernel_rfl
theorem slo24 : slo Tryz.prog 24 = some (50, 12, 24) := by kernel_rfl
theorem slTy24 : slTy Tryz.prog 24 = true := by kernel_rfl
theorem szo25 : szo Tryz.prog 25 = some 1 := by kernel_rfl
theorem aggo25 : aggo Tryz.prog 25 = some false := by kernel_rfl
theorem rowo25 : rowo Tryz.prog 25 = some (false, 0, 12) := by kernel_rfl
theorem slo25 : slo Tryz.prog 25 = some (50, 12, 24) := by kernel_rfl
theorem slTy25 : slTy Tryz.prog 25 = true := by kernel_rfl
theorem szo27 : szo Tryz.prog 27 = some 1 := by kernel_rfl
theorem aggo27 : aggo Tryz.prog 27 = some false := by kernel_rfl
theorem zero27 : zeroL Tryz.prog 27 = some ([.v (.slice none 0 0)]) := by kernel_rfl
theorem rowo27 : rowo Tryz.prog 27 = some (false, 0, 1) := by kernel_rfl
theorem slo27 : slo Tryz.prog 27 = some (2, 1, 8) := by kernel_rfl
theorem slTy27 : slTy Tryz.prog 27 = true := by kernel_rfl
theorem szo48 : szo Tryz.prog 48 = some 1 := by kernel_rfl
theorem aggo48 : aggo Tryz.prog 48 = some false := by kernel_rfl
theorem szo50 : szo Tryz.prog 50 = some 12 := by kernel_rfl
theorem aggo50 : aggo Tryz.prog 50 = some true := by kernel_rfl
theorem zero50 : zeroL Tryz.prog 50 = some (List.replicate 12 (.v (.int .u16 0))) := by kernel_rfl
theorem rowo50 : rowo Tryz.prog 50 = some (true, 12, 1) := by kernel_rfl
theorem etyp50 : etyp Tryz.prog 50 = some (12, 48, 1) := by kernel_rfl
theorem bld50 : bld Tryz.prog 50 = some (.ar 1) := by kernel_rfl
theorem eqo50 : eqo Tryz.prog 50 = some (List.replicate 12 (.i .u16)) := by kernel_rfl
theorem rowo56 : rowo Tryz.prog 56 = some (false, 0, 1) := by kernel_rfl
theorem slo56 : slo Tryz.prog 56 = some (9, 1, 16) := by kernel_rfl
theorem slTy56 : slTy Tryz.prog 56 = true := by kernel_rfl
theorem zero71 : zeroL Tryz.prog 71 = some ([.v (.slice none 0 0), .v (.slice none 0 0), .v (.int .i64 0)]) := by kernel_rfl
theorem bld71 : bld Tryz.prog 71 = some (.st [(0, 1), (1, 1), (2, 1)]) := by kernel_rfl
theorem foff71_0 : foff Tryz.prog 71 0 = some 0 := by kernel_rfl
theorem foff71_1 : foff Tryz.prog 71 1 = some 1 := by kernel_rfl
theorem foff71_2 : foff Tryz.prog 71 2 = some 2 := by kernel_rfl
theorem rowo73 : rowo Tryz.prog 73 = some (true, 8, 1) := by kernel_rfl
theorem szo74 : szo Tryz.prog 74 = some 64 := by kernel_rfl
theorem aggo74 : aggo Tryz.prog 74 = some true := by kernel_rfl
theorem zero74 : zeroL Tryz.prog 74 = some (List.replicate 64 (.v (.int .i64 0))) := by kernel_rfl
theorem rowo74 : rowo Tryz.prog 74 = some (true, 8, 8) := by kernel_rfl
theorem bld74 : bld Tryz.prog 74 = some (.ar 8) := by kernel_rfl
theorem rowo79 : rowo Tryz.prog 79 = some (false, 0, 1) := by kernel_rfl
theorem slo79 : slo Tryz.prog 79 = some (3, 1, 8) := by kernel_rfl
theorem slTy79 : slTy Tryz.prog 79 = true := by kernel_rfl
theorem rowo85 : rowo Tryz.prog 85 = some (false, 0, 1) := by kernel_rfl
theorem slo85 : slo Tryz.prog 85 = some (4, 1, 1) := by kernel_rfl
theorem und100 : Tryz.prog.underlying 100 = some (.int .u64) := by kernel_rfl
theorem szo101 : szo Tryz.prog 101 = some 1 := by kernel_rfl
theorem aggo101 : aggo Tryz.prog 101 = some false := by kernel_rfl
theorem und101 : Tryz.prog.underlying 101 = some (.int .u64) := by kernel_rfl
theorem zero103 : zeroL Tryz.prog 103 = some ([.v (.slice none 0 0), .v (.int .i64 0), .v (.int .u64 0)]) := by kernel_rfl
theorem bld103 : bld Tryz.prog 103 = some (.st [(0, 1), (1, 1), (2, 1)]) := by kernel_rfl
theorem foff103_0 : foff Tryz.prog 103 0 = some 0 := by kernel_rfl
theorem foff103_1 : foff Tryz.prog 103 1 = some 1 := by kernel_rfl
theorem foff103_2 : foff Tryz.prog 103 2 = some 2 := by kernel_rfl
theorem rowo144 : rowo Tryz.prog 144 = some (false, 0, 1) := by kernel_rfl
theorem slTy144 : slTy Tryz.prog 144 = true := by kernel_rfl
theorem slo166 : slo Tryz.prog 166 = some (197, 2, 2) := by kernel_rfl
theorem slTy166 : slTy Tryz.prog 166 = true := by kernel_rfl
theorem und195 : Tryz.prog.underlying 195 = some (.int .i8) := by kernel_rfl
theorem zero197 : zeroL Tryz.prog 197 = some ([.v (.int .i8 0), .v (.int .i8 0)]) := by kernel_rfl
theorem bld197 : bld Tryz.prog 197 = some (.st [(0, 1), (1, 1)]) := by kernel_rfl
attribute [go_sem] szo2 aggo2 zero2 und2 szo3 aggo3 zero3 und3 szo4 aggo4 zero4 szo5 aggo5 und5 szo9 aggo9 zero9 und9 szo22 aggo22 rowo22 slTy22 rowo24 slo24 slTy24 szo25 aggo25 rowo25 slo25 slTy25 szo27 aggo27 zero27 rowo27 slo27 slTy27 szo48 aggo48 szo50 aggo50 zero50 rowo50 etyp50 bld50 eqo50 rowo56 slo56 slTy56 zero71 bld71 foff71_0 foff71_1 foff71_2 rowo73 szo74 aggo74 zero74 rowo74 bld74 rowo79 slo79 slTy79 rowo85 slo85 und100 szo101 aggo101 und101 zero103 bld103 foff103_0 foff103_1 foff103_2 rowo144 slTy144 slo166 slTy166 und195 zero197 bld197
theorem mixed : Tryz.prog.follows .mixedOrders = true := by kernel_rfl
end Go.Proofs.YtaekjojblkhfdaaGreatDoor
