/- Contracts of functions of the translated program, by the walk. -/
import Derived.Test.YtheeehjgmifclaaRc2
import Derived.Test.YtheeehjgmifclaaLD
set_option linter.unusedVariables false
set_option linter.unusedSimpArgs false
set_option maxRecDepth 8000
set_option maxHeartbeats 4000000
namespace Go.Proofs.Ytheeehjgmifclaa
open Go Go.Sx
theorem putAt {H : List Blk} {i off : Nat} {f : Nat → Int} {A C : List V} {t : TypeId} {k : BK} {x y : Nat} (h : H[i]? = some ⟨A ++ (rowL .u16 12 (f) ++ C), t, k⟩) (ho : off = A.length) (hk : k.mut = true) (hl : k.live = true) (hf : R16 f) (hx : x < 12) (hy : y < 12) :
    Cal Try.prog 109 [.p i off, .v (.int .i64 x), .v (.int .i64 y)] H fun u H' => u = .t [] ∧ H' = H.set i ⟨A ++ (rowL .u16 12 (putF f x y) ++ C), t, k⟩ := by
  have e : placeB (x : Int) (y : Int) = true := by unfold placeB; simp; omega
  have h16 := hf y hy
  have hc : cel (A ++ (rowL .u16 12 (f) ++ C)) (off + y) = .v (.int .u16 (f y)) := by rw [cel_at (m := y) _ (by omega)]; exact rowL_cell _ _ _ _ hy
  have hwrr : ∀ z : Int, wr (A ++ (rowL .u16 12 (f) ++ C)) (off + y) [.v (.int .u16 z)] = A ++ (rowL .u16 12 (upd f y z) ++ C) := fun z => by
    rw [Go.Sx.wr_at (m := y) _ (by omega), wr_app (by rw [rowL_length]; simp; omega), rowL_wr _ _ _ hy]
  have hlen : (A ++ (rowL .u16 12 (f) ++ C)).length = off + (12 + C.length) := by simp [rowL_length, ho]
  refine cal_fn 19 mixed Try.func109 Try.ntmps109 Try.results109 rfl rfl rfl fun hw cx hx hq => ?_
  simp only [go_sem]
  refine call_ret l01Place (by simp only [go_sem]) ?_
  simp only [go_sem, e]
  refine DK_all _ _ _ [[],[],[],[],[2],[2,3,4],[2,3,4,5],[],[7],[7,8],[2,3,4,5,6,7,8,9],[0],[0,1,2,3,4,5,6,7,8,9,10,11],[0,1,2,3,4,5,6,7,8,9,10,11,12]] (by kernel_rfl) ?_
  simp only [go_sem, h, hl, hk, hc, hlen, hwrr]
  have hwr : IntKind.u64.wrap (x : Int) = x := wrap_u64 (by omega) (by omega)
  repeat (refine And.intro (by omega) ?_)
  refine ret_at hq _ (.inr rfl) (by simp) ?_
  simp only [go_sem, putF, e, or_dot h16.1 h16.2 (show (0 : Int) ≤ (x : Int) by omega) (show (x : Int) ≤ 15 by omega)]
  all_goals simp [retV]
end Go.Proofs.Ytheeehjgmifclaa

