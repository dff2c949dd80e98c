/- Contracts of functions of the translated program, by the walk. -/
import Derived.Test.YtjkkallcgplgmaaC1
set_option linter.unusedVariables false
set_option linter.unusedSimpArgs false
set_option maxRecDepth 8000
set_option maxHeartbeats 4000000
namespace Go.Proofs.Ytjkkallcgplgmaa
open Go Go.Sx
def pg (l : List (Nat → Int)) (i : Nat) : Nat → Int := l[i]?.getD zeroF
theorem pg_at {l : List (Nat → Int)} {i : Nat} (h : i < l.length) : pg l i = l[i] := by unfold pg; rw [List.getElem?_eq_getElem h]; rfl
def jmp (l : List (Nat → Int)) (i k : Nat) : Int := jumpF (pg l i) (pg l k)
theorem okB_12 {l : List (Nat → Int)} (h : okB l = true) (hR : ∀ f ∈ l, R16 f) : ∀ f ∈ l, F12 f := fun f hf => okF_f12 (List.all_eq_true.1 (okB_iff.1 h).2 f hf) (hR f hf)
theorem pg_12 {l : List (Nat → Int)} (h : ∀ f ∈ l, F12 f) (i : Nat) : F12 (pg l i) := by
  unfold pg
  cases e : l[i]? with
  | none => intro j _; simp [zeroF]
  | some f => exact h f (List.mem_of_getElem? e)
theorem l04Jump {H : List Blk} {v : V} {l : List (Nat → Int)} {i k : Int} (h : Rd H v (rowL .u16 12) l) (h12 : ∀ f ∈ l, F12 f) (hi : 0 ≤ i ∧ i < l.length) (hk : 0 ≤ k ∧ k < l.length) :
    Cal Try.prog 73 [v, .v (.int .i64 i), .v (.int .i64 k)] H fun u H' => u = .v (.int .i64 (jmp l i.toNat k.toNat)) ∧ H' = H := by
  obtain ⟨b0, off, c, b, rfl, hat, hf⟩ := h.full (by omega)
  have ai := hat.el hz12 (show i.toNat < l.length by omega)
  have ak := hat.el hz12 (show k.toNat < l.length by omega)
  rw [← pg_at (show i.toNat < l.length by omega)] at ai
  rw [← pg_at (show k.toNat < l.length by omega)] at ak
  refine cal_fn 11 mixed Try.func73 Try.ntmps73 Try.results73 rfl rfl rfl fun hw cx hx hq => ?_
  repeat (first | (simp only [go_sem, Int.reduceLT, Int.reduceLE, Int.reduceEq, Int.reduceToNat]) | ((with_reducible refine And.intro ?_ ?_); omega) | ((with_reducible refine isSK ?_); first | (refine call_ret (l01Differ ai ak (pg_12 h12 _) (pg_12 h12 _)) (by simp only [go_sem, Int.reduceLT, Int.reduceLE, Int.reduceEq, Int.reduceToNat]) ?_)) | ((with_reducible refine isMC ?_); first | (refine mcall_ret (l01Differ ai ak (pg_12 h12 _) (pg_12 h12 _)) (by simp only [go_sem, Int.reduceLT, Int.reduceLE, Int.reduceEq, Int.reduceToNat]) (by simp only [go_sem, Int.reduceLT, Int.reduceLE, Int.reduceEq, Int.reduceToNat]) ?_)) | ((with_reducible refine isWKr (id := 1) ?_); refine WK_drawUp 1 [[],[],[0,1],[],[],[3,4],[0,1,2,3,4,5],[0,1,2,3,4,5,6]] 6 (by kernel_rfl) ?_; dsimp only [List.take, List.drop]) | ((with_reducible refine And.intro ?_ ?_); first | (with_reducible rfl) | assumption | (simp only [go_sem]; done)))
  refine ret_same hq _ (.inl rfl) ?_
  simp [go_sem, jmp]
end Go.Proofs.Ytjkkallcgplgmaa

