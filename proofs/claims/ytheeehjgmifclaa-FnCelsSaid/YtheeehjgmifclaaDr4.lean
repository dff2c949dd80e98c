/- Contracts of functions of the translated program, by the walk. -/
import Derived.Test.YtheeehjgmifclaaDr1
import Derived.Test.YtheeehjgmifclaaR1f
import Derived.Test.YtheeehjgmifclaaC4
set_option linter.unusedVariables false
set_option linter.unusedSimpArgs false
set_option maxRecDepth 8000
set_option maxHeartbeats 4000000
namespace Go.Proofs.Ytheeehjgmifclaa
open Go Go.Sx
open Go.RowKit
theorem putF_12 {f : Nat → Int} (h : F12 f) {x y : Int} : F12 (putF f x y) := by
  intro j hj
  unfold putF
  split
  · rename_i hp
    rw [placeB_iff] at hp
    unfold upd
    split
    · have h1 : (2 : Nat) ^ x.toNat ≤ 2 ^ 11 := Nat.pow_le_pow_right (by omega) (by omega)
      have hy := h y.toNat (by omega)
      have h2 : ((f y.toNat).toNat ||| 2 ^ x.toNat) < 2 ^ 12 := Nat.or_lt_two_pow (by omega) (by omega)
      omega
    · exact h j hj
  · exact h j hj
def pkW (l : List Int) (a : Nat) (sd n : Int) : Int := (nxV l a sd * 256 + nxV l (a + 1) (nxS l a sd)).tmod n
theorem pkW_range {l : List Int} (h8 : B8 l) (a : Nat) (sd : Int) {n : Int} (hn : 1 ≤ n) : 0 ≤ pkW l a sd n ∧ pkW l a sd n < n := by
  have := nxV_range h8 a sd
  have := nxV_range h8 (a + 1) (nxS l a sd)
  unfold pkW
  exact ⟨Int.tmod_nonneg _ (by omega), Int.tmod_lt_of_pos _ (by omega)⟩
theorem pickW {H : List Blk} {i a : Nat} {cv : V} {sd n : Int} {l : List Int} {k : BK} (h : H[i]? = some ⟨[cv, .v (.int .i64 a), .v (.int .u64 sd)], 141, k⟩) (hk : k.mut = true) (hv : k.live = true) (hr : Rd H cv u8C l) (hr2 : ∀ b, Rd (H.set i b) cv u8C l) (h8 : B8 l) (hll : l.length ≤ 4096) (ha : a ≤ 100000) (hs : 0 ≤ sd ∧ sd ≤ 18446744073709551615) (hn : 201 ≤ n ∧ n ≤ 100000) :
    Cal Try.prog 139 [.p i 0, .v (.int .i64 n)] H fun u H' => u = .v (.int .i64 (pkW l a sd n)) ∧ H' = H.set i ⟨[cv, .v (.int .i64 ((a + 2 : Nat) : Int)), .v (.int .u64 (nxS l (a + 1) (nxS l a sd)))], 141, k⟩ := by
  have hsol := hr.solid
  have hlt := (List.getElem?_eq_some_iff.1 h).1
  have hr1 := nxV_range h8 a sd
  have hr3 := nxV_range h8 (a + 1) (nxS l a sd)
  have c1 : (n ≤ 1) = False := eq_false (by omega)
  have c2 : ((200 : Int) < n) = True := eq_true (by omega)
  have c3 : (n = 0) = False := eq_false (by omega)
  refine cal_fn 18 mixed Try.func139 Try.ntmps139 Try.results139 rfl rfl rfl fun hw cx hx hq => ?_
  repeat (first | (simp only [go_sem, Int.reduceLT, Int.reduceLE, Int.reduceEq, Int.reduceToNat, hsol, hlt, c1, c2, c3, List.set_set]) | ((with_reducible refine And.intro ?_ ?_); omega) | ((with_reducible refine isSK ?_); first | (refine call_ret (next h hk hv hr h8 hll (by omega) hs) (by simp only [go_sem, Int.reduceLT, Int.reduceLE, Int.reduceEq, Int.reduceToNat, hsol, hlt, c1, c2, c3, List.set_set]) ?_) | (refine call_ret (next (a := a + 1) (sd := nxS l a sd) (k := k) (List.getElem?_set_self hlt) hk hv (hr2 _) h8 hll (by omega) (nxS_range _ _ _)) (by simp only [go_sem, Int.reduceLT, Int.reduceLE, Int.reduceEq, Int.reduceToNat, hsol, hlt, c1, c2, c3, List.set_set]) ?_)) | ((with_reducible refine isMC ?_); first | (refine mcall_ret (next h hk hv hr h8 hll (by omega) hs) (by simp only [go_sem, Int.reduceLT, Int.reduceLE, Int.reduceEq, Int.reduceToNat, hsol, hlt, c1, c2, c3, List.set_set]) (by simp only [go_sem, Int.reduceLT, Int.reduceLE, Int.reduceEq, Int.reduceToNat, hsol, hlt, c1, c2, c3, List.set_set]) ?_) | (refine mcall_ret (next (a := a + 1) (sd := nxS l a sd) (k := k) (List.getElem?_set_self hlt) hk hv (hr2 _) h8 hll (by omega) (nxS_range _ _ _)) (by simp only [go_sem, Int.reduceLT, Int.reduceLE, Int.reduceEq, Int.reduceToNat, hsol, hlt, c1, c2, c3, List.set_set]) (by simp only [go_sem, Int.reduceLT, Int.reduceLE, Int.reduceEq, Int.reduceToNat, hsol, hlt, c1, c2, c3, List.set_set]) ?_)) | ((with_reducible refine And.intro ?_ ?_); first | (with_reducible rfl) | assumption | (simp only [go_sem]; done)))
  refine ret_at hq _ (.inl rfl) (by simp) ?_
  simp [go_sem, pkW]
end Go.Proofs.Ytheeehjgmifclaa

