/- Contracts of functions of the translated program, by the walk. -/
import Derived.Test.YtjkkallcgplgmaaC6
import Derived.Test.YtjkkallcgplgmaaB5
set_option linter.unusedVariables false
set_option linter.unusedSimpArgs false
set_option maxRecDepth 8000
set_option maxHeartbeats 4000000
namespace Go.Proofs.Ytjkkallcgplgmaa
open Go Go.Sx
def jl (l : List (Nat → Int)) (n : Nat) : List Int := (List.range n).map fun k => jmp l k (k + 1)
theorem jl_len (l : List (Nat → Int)) (n : Nat) : (jl l n).length = n := by simp [jl]
theorem jl_succ (l : List (Nat → Int)) (n : Nat) : jl l (n + 1) = jl l n ++ [jmp l n (n + 1)] := by simp [jl, List.range_succ]
theorem flat_snoc {α : Type} (enc : α → List V) (l : List α) (a : α) : (l ++ [a]).flatMap enc = l.flatMap enc ++ enc a := by simp
theorem jumps {H : List Blk} {v : V} {l : List (Nat → Int)} (h : Rd H v (rowL .u16 12) l) (h12 : ∀ f ∈ l, F12 f) (hl : l.length ≤ 1000000) :
    Cal Try.prog 62 [v] H fun u H' => u = .s H.length 0 (jl l (l.length - 1)).length (.u 0) ∧ H' = H ++ [⟨(jl l (l.length - 1)).flatMap i64C, 2, .own 1⟩] := by
  have hsol := h.solid
  have hL := h.lenV (P := Try.prog) slTy27
  refine cal_fn 25 mixed Try.func62 Try.ntmps62 Try.results62 rfl rfl rfl fun hw cx hx hq => ?_
  repeat (first | (simp only [go_sem, Int.reduceLT, Int.reduceLE, Int.reduceEq, Int.reduceToNat, hsol]) | ((with_reducible refine And.intro ?_ ?_); omega) | ((with_reducible refine isWKr (id := 5) ?_); refine WK_drawUp 5 [[],[],[],[2],[1,2,3],[1,2,3,4],[],[],[6,7],[6,7,8],[1,2,3,4,5,6,7,8,9],[1,2,3,4,5,6,7,8,9,10],[0,1,2,3,4,5,6,7,8,9,10,11],[0,1,2,3,4,5,6,7,8,9,10,11,12]] 12 (by kernel_rfl) ?_; dsimp only [List.take, List.drop]) | ((with_reducible refine And.intro ?_ ?_); first | (with_reducible rfl) | assumption | (simp only [go_sem]; done)))
  refine WK_for (fun n : Nat => ⟨[v, .any, .any, .s H.length 0 (jl l n).length (.u 0), .v (.int .i64 ((n : Int) + 1))] ++ junk 21, H ++ [⟨(jl l n).flatMap i64C, 2, .own 1⟩]⟩) (fun n => n ≤ l.length - 1) (fun n => l.length - n) 0 (Weak.slots ?_) ?_ fun n hn => ?_
  · simp [go_sem, jl]
  · simp
  rcases Int.lt_or_le ((n : Int) + 1) l.length with hc | hc
  · obtain ⟨i, off, c, b, rfl, hat⟩ := h.row (by omega)
    have hil := hat.lt
    have a0 := hat.elem (rowL .u16 12) 12 hz12 (show n < l.length by omega)
    have a1 := hat.elem (rowL .u16 12) 12 hz12 (show n + 1 < l.length by omega)
    have f0 := hat.fits (rowL .u16 12) 12 hz12 (show n < l.length by omega) (by omega)
    have f1 := hat.fits (rowL .u16 12) 12 hz12 (show n + 1 < l.length by omega) (by omega)
    rw [← pg_at] at a0 a1
    have t0 : ((n : Int) + 1 - 1).toNat = n := by omega
    have t1 : ((n : Int) + 1).toNat = n + 1 := by omega
    have hn1 : norefH H.length H := norefH_wf hw (Nat.le_refl _)
    have hn2 : norefs H.length ((jl l n).flatMap i64C) = true := flat_i64.norefs _ _
    have hl2 : ((jl l n).flatMap i64C).length = (jl l n).length := by rw [flat_i64.flen, Nat.mul_one]
    have hle := jl_len l n
    have hij : (i = H.length) = False := eq_false (by omega)
    have hd1 : (H.length + 1 = H.length) = False := eq_false (by omega)
    have e3 := jl_succ l n
    repeat (first | (simp only [go_sem, Int.reduceLT, Int.reduceLE, Int.reduceEq, Int.reduceToNat, hL, hc, (get_app hat.get), hat.live, t0, t1, a0, a1, hn1, hn2, hl2, hij, hd1, hx]) | ((with_reducible refine And.intro ?_ ?_); omega) | ((with_reducible refine isSK ?_); first | (refine call_ret (jump (pg_12 h12 _) (pg_12 h12 _)) (by simp only [go_sem, Int.reduceLT, Int.reduceLE, Int.reduceEq, Int.reduceToNat, hL, hc, (get_app hat.get), hat.live, t0, t1, a0, a1, hn1, hn2, hl2, hij, hd1, hx]) ?_)) | ((with_reducible refine isMC ?_); first | (refine mcall_ret (jump (pg_12 h12 _) (pg_12 h12 _)) (by simp only [go_sem, Int.reduceLT, Int.reduceLE, Int.reduceEq, Int.reduceToNat, hL, hc, (get_app hat.get), hat.live, t0, t1, a0, a1, hn1, hn2, hl2, hij, hd1, hx]) (by simp only [go_sem, Int.reduceLT, Int.reduceLE, Int.reduceEq, Int.reduceToNat, hL, hc, (get_app hat.get), hat.live, t0, t1, a0, a1, hn1, hn2, hl2, hij, hd1, hx]) ?_)) | ((with_reducible refine isWKr (id := 5) ?_); refine WK_drawUp 5 [[],[],[],[2],[1,2,3],[1,2,3,4],[],[],[6,7],[6,7,8],[1,2,3,4,5,6,7,8,9],[1,2,3,4,5,6,7,8,9,10],[0,1,2,3,4,5,6,7,8,9,10,11],[0,1,2,3,4,5,6,7,8,9,10,11,12]] 12 (by kernel_rfl) ?_; dsimp only [List.take, List.drop]) | ((with_reducible refine And.intro ?_ ?_); first | (with_reducible rfl) | assumption | (simp only [go_sem]; done)))
    refine EK_again (n + 1) ?_ (by omega) (by omega)
    rw [e3, flat_snoc]
    exact Weak.keepN rfl (by simp [go_sem] <;> omega) (by simp [hx]) (by simp [go_sem, hil, flat_i64.lts, i64C, jmp] <;> omega) (hw.app (by simp [go_sem, hil, flat_i64.lts, i64C, jmp] <;> omega))
  · have : n = l.length - 1 := by omega
    subst this
    repeat (first | (simp only [go_sem, Int.reduceLT, Int.reduceLE, Int.reduceEq, Int.reduceToNat, hL, Int.not_lt.2 hc]) | ((with_reducible refine And.intro ?_ ?_); omega) | ((with_reducible refine isWKr (id := 5) ?_); refine WK_drawUp 5 [[],[],[],[2],[1,2,3],[1,2,3,4],[],[],[6,7],[6,7,8],[1,2,3,4,5,6,7,8,9],[1,2,3,4,5,6,7,8,9,10],[0,1,2,3,4,5,6,7,8,9,10,11],[0,1,2,3,4,5,6,7,8,9,10,11,12]] 12 (by kernel_rfl) ?_; dsimp only [List.take, List.drop]) | ((with_reducible refine And.intro ?_ ?_); first | (with_reducible rfl) | assumption | (simp only [go_sem]; done)))
    refine ret_at hq _ (.inl rfl) (by simp) ?_
    simp [go_sem]
end Go.Proofs.Ytjkkallcgplgmaa

