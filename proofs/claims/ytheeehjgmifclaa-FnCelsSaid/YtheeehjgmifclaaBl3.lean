/- Contracts of functions of the translated program, by the walk. -/
import Derived.Test.YtheeehjgmifclaaBl2
set_option linter.unusedVariables false
set_option linter.unusedSimpArgs false
set_option maxRecDepth 8000
set_option maxHeartbeats 4000000
namespace Go.Proofs.Ytheeehjgmifclaa
open Go Go.RowKit Go.Shelf Go.Proofs
theorem cellsByte : Try.prog.cellsOf 5 = 1 := by kernel_rfl
theorem str_row (b g : Nat) (l : List UInt8) (p : Value) (cap : Nat) (cur : Array Value) (w : World) (hbk : w.heap[b]? = some (.cells #[p, .slice (some ⟨g, 0, none⟩) l.length cap] 156 (0, 0))) (hg : w.heap[g]? = some (.cells cur 5 (0, 0))) (h0 : l ≠ []) (hle : l.length ≤ cur.size) (hcm : cur.size ≤ maxLen) (hc1 : l.length ≤ cap)
    (htake : cur.toList.take l.length = Lib.byteCells l) :
    Calls Try.prog 141 #[.pointer (some ⟨b, 0, none⟩)] w fun e w' => e = .returned (.string ⟨l.toArray⟩) ∧ w' = w.drew.freeze ⟨g, 0, none⟩ l.length := by
  have hl0 : l.length ≠ 0 := by simpa using h0
  have c1 : w.drew.cell? ⟨b, 1, none⟩ = some (.slice (some ⟨g, 0, none⟩) l.length cap) := by
    have : w.drew.heap[b]? = some (.cells #[p, .slice (some ⟨g, 0, none⟩) l.length cap] 156 (0, 0)) := hbk
    rw [Lib.cell_of_heap this]; rfl
  have hSD : (Builtin.unsafeSliceData_ #[65] 164 #[.slice (some ⟨g, 0, none⟩) l.length cap]).run Try.prog w.drew = .ok (.pointer (some ⟨g, 0, none⟩)) w.drew :=
    Lib.run_unsafeSliceData_row _ _ _ _ _ _ (by omega)
  have hUS : (Builtin.unsafeString_ #[164, 3] 9 #[.pointer (some ⟨g, 0, none⟩), .int .i64 l.length]).run Try.prog w.drew = .ok (.string ⟨l.toArray⟩) (w.drew.freeze ⟨g, 0, none⟩ l.length) := by
    refine Lib.run_unsafeString_row w.drew 164 3 9 5 Try.underlying164 cellsByte g cur.size (by have hg' : w.drew.heap[g]? = some (.cells cur 5 (0, 0)) := hg; simp [World.shape?, hg']) l h0 (by omega) (by unfold maxLen at hcm; omega) ?_
    intro j x hx
    have hg' : w.drew.heap[g]? = some (.cells cur 5 (0, 0)) := hg
    have hj := (List.getElem?_eq_some_iff.1 hx).1
    rw [show ((⟨g, 0, none⟩ : Addr).add j) = ⟨g, j, none⟩ by unfold Addr.add; split <;> simp_all, Lib.cell_of_heap hg']
    have h2 : (cur.toList.take l.length)[j]? = some (.int .u8 x.toNat) := by rw [htake]; simp [Lib.byteCells, hx]
    rw [List.getElem?_take, if_pos hj] at h2
    simpa using h2
  have mixed : Try.prog.follows .mixedOrders = true := by kernel_rfl
  have u0 := run_underlying Try.underlying156; have t0 := Try.underlying156; have a0 := Try.isAgg156; have z0 := Try.sizeOf156; have v0 := Try.zeroValue156
  have u1 := run_underlying Try.underlying154; have t1 := Try.underlying154; have a1 := Try.isAgg154; have z1 := Try.sizeOf154; have v1 := Try.zeroValue154
  have u2 := run_underlying Try.underlying65; have t2 := Try.underlying65; have a2 := Try.isAgg65; have z2 := Try.sizeOf65; have v2 := Try.zeroValue65
  have u3 := run_underlying Try.underlying164; have t3 := Try.underlying164; have a3 := Try.isAgg164; have z3 := Try.sizeOf164; have v3 := Try.zeroValue164
  have u4 := run_underlying Try.underlying3; have t4 := Try.underlying3; have a4 := Try.isAgg3; have z4 := Try.sizeOf3; have v4 := Try.zeroValue3
  have u5 := run_underlying Try.underlying9; have t5 := Try.underlying9; have a5 := Try.isAgg9; have z5 := Try.sizeOf9; have v5 := Try.zeroValue9
  have u6 := run_underlying Try.underlying5; have t6 := Try.underlying5; have a6 := Try.isAgg5; have z6 := Try.sizeOf5; have v6 := Try.zeroValue5
  go_enter Try.func141, Try.ntmps141
  go_wp2
  go_region_o
  all_goals (go_wp2; go_ret; exact ⟨rfl, rfl⟩)
end Go.Proofs.Ytheeehjgmifclaa

