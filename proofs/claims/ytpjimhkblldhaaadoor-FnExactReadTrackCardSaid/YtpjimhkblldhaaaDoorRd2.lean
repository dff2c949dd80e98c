/- Contracts of functions of the translated program, by the walk. -/
import Derived.Test.YtpjimhkblldhaaaDoorRd1
import Derived.Test.YtpjimhkblldhaaaDoorDl4
import Derived.Test.YtpjimhkblldhaaaDoorDl5
import Derived.WalkKit
set_option linter.unusedVariables false
set_option linter.unusedSimpArgs false
set_option maxRecDepth 8000
set_option maxHeartbeats 4000000
namespace Go.Proofs.YtpjimhkblldhaaaDoor
open Go Go.Sx
open Go.Proofs Go.Shelf Go.RowKit
theorem inRangeK (n lo hi : Int) (w : World) : Calls Tryd.prog 29 #[.int .i64 n, .int .i64 lo, .int .i64 hi] w fun e w' => e = .returned (.bool (decide (lo ≤ n) && decide (n ≤ hi))) ∧ w' = w := by
  go_enter Tryd.func29, Tryd.ntmps29
  by_cases h1 : lo ≤ n
  · have d1 : decide (lo ≤ n) = true := decide_eq_true h1
    by_cases h2 : n ≤ hi
    · have d2 : decide (n ≤ hi) = true := decide_eq_true h2
      rw [d1, d2]
      go_wp2
      go_ret
      exact ⟨rfl, rfl⟩
    · have d2 : decide (n ≤ hi) = false := decide_eq_false h2
      rw [d1, d2]
      go_wp2
      go_ret
      exact ⟨rfl, rfl⟩
  · have d1 : decide (lo ≤ n) = false := decide_eq_false h1
    rw [d1]
    go_wp2
    go_ret
    exact ⟨rfl, rfl⟩
theorem decimalK (i : Int) (h0 : -1000000 ≤ i) (h1 : i ≤ 1000000) (w : World) (hT : Lib.TabIs Tryd.prog w "internal/strconv.uint64pow10" .u64 Lib.pow10Tab) :
    Calls Tryd.prog 30 #[.int .i64 i] w fun e w' => e = .returned (.string ⟨(Lib.itoa i).toArray⟩) ∧ Below w.heap.size w w' := by
  have c : Calls Tryd.prog 47 #[.int .i64 i, .int .i64 10] w fun e w' => e = .returned (.string ⟨(Lib.itoa i).toArray⟩) ∧ Below w.heap.size w w' :=
    (Any.strconv_FormatInt_10 laysM173 i (by omega) (by omega) w hT).mono (by
      rintro e w' ⟨rfl, k, os, rfl⟩
      refine ⟨rfl, rfl, rfl, rfl, by simp [Go.Sort.grow, World.drewN], fun j hj => ?_⟩
      show (w.heap ++ os)[j]? = w.heap[j]?
      rw [Array.getElem?_append_left hj])
  go_enter Tryd.func30, Tryd.ntmps30
  go_wp2_with fail
  refine c.mono ?_
  rintro e w1 ⟨rfl, hb⟩
  go_wp2
  go_ret
  exact ⟨rfl, hb⟩
theorem readBad (s : ByteArray) (lo hi n0 : Int) (te : TypeId) (w : World)
    (c : Calls Tryd.prog 57 #[.string s, .int .i64 10, .int .i64 64] w fun e w' => ∃ pe, e = .returned (.tuple #[.int .i64 n0, .iface te pe]) ∧ Below w.heap.size w w') :
    Calls Tryd.prog 40 #[.string s, .int .i64 lo, .int .i64 hi] w fun e w' => e = .returned (.tuple #[.int .i64 n0, .bool false]) ∧ Below w.heap.size w w' := by
  go_enter Tryd.func40, Tryd.ntmps40
  go_wp2_with fail
  refine c.mono ?_
  rintro e w1 ⟨pe, rfl, hb⟩
  go_wp2
  go_ret2
  exact ⟨rfl, hb⟩
theorem readOut (s : ByteArray) (lo hi v : Int) (w : World) (hr : (decide (lo ≤ v) && decide (v ≤ hi)) = false)
    (c : Calls Tryd.prog 57 #[.string s, .int .i64 10, .int .i64 64] w fun e w' => e = .returned (.tuple #[.int .i64 v, .nilIface]) ∧ Below w.heap.size w w') :
    Calls Tryd.prog 40 #[.string s, .int .i64 lo, .int .i64 hi] w fun e w' => e = .returned (.tuple #[.int .i64 v, .bool false]) ∧ Below w.heap.size w w' := by
  go_enter Tryd.func40, Tryd.ntmps40
  go_wp2_with fail
  refine c.mono ?_
  rintro e w1 ⟨rfl, hb⟩
  go_wp2_with fail
  refine (inRangeK v lo hi w1).mono ?_
  rintro e w2 ⟨rfl, rfl⟩
  rw [hr]
  go_wp2
  go_ret2
  exact ⟨rfl, hb⟩
theorem below_var {P : Program} {w w' : World} {n : String} {cs : Array Value} (hb : Below w.heap.size w w') (h : w.var? P n = some cs) : w'.var? P n = some cs := by
  unfold World.var? at h ⊢
  cases hg : P.globalNamed n with
  | none => rw [hg] at h; cases h
  | some g =>
    rw [hg] at h
    simp only [Option.bind_some] at h ⊢
    have hlt : g < w.heap.size := by
      rcases Nat.lt_or_ge g w.heap.size with h' | h'
      · exact h'
      · simp [Array.getElem?_eq_none h'] at h
    rw [hb.block g hlt]
    exact h
theorem readIn (s : ByteArray) (lo hi v : Int) (w : World) (h0 : -1000000 ≤ v) (h1 : v ≤ 1000000) (hr : (decide (lo ≤ v) && decide (v ≤ hi)) = true) (hT : Lib.TabIs Tryd.prog w "internal/strconv.uint64pow10" .u64 Lib.pow10Tab)
    (c : Calls Tryd.prog 57 #[.string s, .int .i64 10, .int .i64 64] w fun e w' => e = .returned (.tuple #[.int .i64 v, .nilIface]) ∧ Below w.heap.size w w') :
    Calls Tryd.prog 40 #[.string s, .int .i64 lo, .int .i64 hi] w fun e w' => e = .returned (.tuple #[.int .i64 v, .bool (Lib.itoa v == s.toList)]) ∧ Below w.heap.size w w' := by
  go_enter Tryd.func40, Tryd.ntmps40
  go_wp2_with fail
  refine c.mono ?_
  rintro e w1 ⟨rfl, hb⟩
  go_wp2_with fail
  refine (inRangeK v lo hi w1).mono ?_
  rintro e w2 ⟨rfl, rfl⟩
  rw [hr]
  go_wp2_with fail
  refine (decimalK v h0 h1 w2 (below_var hb hT)).mono ?_
  rintro e w3 ⟨rfl, hb2⟩
  go_wp2
  go_ret2
  exact ⟨rfl, hb.trans (hb2.mono hb.size)⟩
end Go.Proofs.YtpjimhkblldhaaaDoor

