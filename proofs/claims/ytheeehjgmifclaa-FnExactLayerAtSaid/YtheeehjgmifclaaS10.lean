/- Contracts of functions of the translated program, by the walk. -/
import Derived.Test.YtheeehjgmifclaaS8
import Derived.Test.YtheeehjgmifclaaS2
import Derived.Test.YtheeehjgmifclaaLD
import Derived.Test.YtheeehjgmifclaaB1
import Derived.Test.YtheeehjgmifclaaB2
set_option linter.unusedVariables false
set_option linter.unusedSimpArgs false
set_option maxRecDepth 8000
set_option maxHeartbeats 4000000
namespace Go.Proofs.Ytheeehjgmifclaa
open Go Go.Sx
open Go.RowKit

theorem cam_all {l : List (Nat → Int)} {x y : Int} (h : camC l x y = 0) : ∀ a ∈ l, okL a = true := List.all_eq_true.1 (okS_iff.1 (camC_ok h).1).2
theorem lessF_12 {f g : Nat → Int} (h : F12 f) : F12 (lessF f g) := fun j hj => by
  have a := h j hj
  unfold lessF
  have e : bits .andNot .u16 (f j) (g j) = IntKind.u16.wrap ((BitVec.ofInt 16 (f j) &&& ~~~(BitVec.ofInt 16 (g j))).toNat : Int) := rfl
  have e2 : (BitVec.ofInt 16 (f j)).toNat = (f j).toNat := by
    obtain ⟨A, hA⟩ := Int.eq_ofNat_of_zero_le a.1
    rw [hA, ofInt_u16 A (by omega)]; rfl
  have := Nat.and_le_left (n := (BitVec.ofInt 16 (f j)).toNat) (m := (~~~(BitVec.ofInt 16 (g j))).toNat)
  rw [e, BitVec.toNat_and, IntKind.wrap_u16]
  omega
theorem see_12 {l : List (Nat → Int)} {x y : Int} (hly : ∀ a ∈ l, LyW a) (hok : ∀ a ∈ l, okL a = true) {k : Nat} (hk : k < l.length) : F12 (seeF l x y k) := by
  unfold seeF
  refine lessF_12 (movI_f12 ?_ _ _)
  rw [ly_at hk]
  exact (okL_f12 (hok _ (List.getElem_mem hk)) (hly _ (List.getElem_mem hk))).2
theorem seen_at {l : List (Nat → Int)} {x y : Int} {n N : Nat} (h : n < N) : (seen_ l x y N)[n]'(by rw [seen_len]; exact h) = seeF l x y n := by simp [seen_]
theorem seen_seg {l : List (Nat → Int)} {x y : Int} {n N : Nat} (h : n < N) : seg ((seen_ l x y N).flatMap (rowL .u16 12)) (n * 12) 12 = rowL .u16 12 (seeF l x y n) := by
  rw [flat_seg (rowL .u16 12) 12 (fun _ => rowL_length ..) _ n (by rw [seen_len]; exact h), seen_at h]
theorem seen_flen (l : List (Nat → Int)) (x y : Int) (n : Nat) : ((seen_ l x y n).flatMap (rowL .u16 12)).length = n * 12 := by rw [flat_len _ 12 (fun _ => rowL_length ..), seen_len]
end Go.Proofs.Ytheeehjgmifclaa

