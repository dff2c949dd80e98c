/- Contracts of functions of the translated program, by the walk. -/
import Derived.Test.YtheeehjgmifclaaLD
import Derived.Test.YtheeehjgmifclaaC2
set_option linter.unusedVariables false
set_option linter.unusedSimpArgs false
set_option maxRecDepth 8000
set_option maxHeartbeats 4000000
namespace Go.Proofs.Ytheeehjgmifclaa
open Go Go.Sx
/- Blobs: plain law. -/
theorem or_dot8 {a x : Int} (ha : 0 ≤ a) (ha2 : a < 65536) (hx : 0 ≤ x) (hx2 : x ≤ 15) : bits .or .u16 a (IntKind.u16.wrap (1 * 2 ^ (min x.toNat 16))) = ((a.toNat ||| 2 ^ x.toNat : Nat) : Int) := by
  have := or_dot ha ha2 hx hx2
  rwa [wrap_u64 hx (by omega)] at this
theorem with_ {H : List Blk} {f : Nat → Int} {a c : Int} (hf : R16 f) (hp : placeB a c = true) : Cal Try.prog 125 [.a (rowL .u16 12 (f)), .v (.int .i64 a), .v (.int .i64 c)] H fun v H' => v = .a (rowL .u16 12 (putF f a c)) ∧ H' = H := by
  refine cal_fn 12 mixed Try.func125 Try.ntmps125 Try.results125 rfl rfl rfl fun hw cx hx hq => ?_
  have e' := placeB_iff.1 hp
  have h16 := hf c.toNat (by omega)
  repeat (first | (simp only [go_sem, Int.reduceLT, Int.reduceLE, Int.reduceEq, Int.reduceToNat, rowL_cel _ _ _ (show c.toNat < 12 by omega), rowL_wr _ _ _ (show c.toNat < 12 by omega), or_dot8 h16.1 h16.2 e'.1.1 (show a ≤ 15 by omega), rowL_rep]) | ((with_reducible refine And.intro ?_ ?_); omega) | ((with_reducible refine isWKr (id := 1) ?_); refine WK_drawAt 1 [[],[0],[0,1],[],[3],[0,1,2,3,4],[0,1,2,3,4,5],[0,1,2,3,4,5,6]] (by kernel_rfl) ?_) | ((with_reducible refine And.intro ?_ ?_); first | (with_reducible rfl) | assumption | (simp only [go_sem]; done)))
  refine ret_cut hq hw _ (.inl rfl) ?_
  simp [go_sem, putF, hp]
end Go.Proofs.Ytheeehjgmifclaa

