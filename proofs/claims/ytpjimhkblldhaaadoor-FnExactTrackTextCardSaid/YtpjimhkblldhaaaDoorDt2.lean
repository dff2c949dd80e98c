/- Contracts of functions of the translated program, by the walk. -/
import Derived.Test.YtpjimhkblldhaaaDoorDt1
set_option linter.unusedVariables false
set_option linter.unusedSimpArgs false
set_option maxRecDepth 8000
set_option maxHeartbeats 4000000
namespace Go.Proofs.YtpjimhkblldhaaaDoor
open Go Go.Sx
/-- Texts joined. -/
def jnT (s : List Int) : List (List Int) → List Int
  | [] => []
  | x :: r => x ++ r.flatMap (s ++ ·)
theorem jnT_snoc {s : List Int} {xs : List (List Int)} (x : List Int) (h : xs ≠ []) : jnT s (xs ++ [x]) = jnT s xs ++ s ++ x := by
  cases xs with
  | nil => exact absurd rfl h
  | cons a r => simp [jnT, List.append_assoc]
theorem jnT_len {s : List Int} {k : Nat} : ∀ {xs : List (List Int)}, (∀ x ∈ xs, x.length + s.length ≤ k) → (jnT s xs).length ≤ k * xs.length
  | [], _ => by simp [jnT]
  | x :: r, h => by
    have h0 := h x (List.mem_cons_self ..)
    have : ∀ (r : List (List Int)), (∀ x ∈ r, x.length + s.length ≤ k) → (r.flatMap (s ++ ·)).length ≤ k * r.length := by
      intro r
      induction r with
      | nil => simp
      | cons a r ih =>
        intro h
        have h1 := h a (List.mem_cons_self ..)
        have h2 := ih fun x hx => h x (List.mem_cons_of_mem _ hx)
        simp only [List.flatMap_cons, List.length_append, List.length_cons, Nat.mul_succ]
        omega
    have h1 := this r fun x hx => h x (List.mem_cons_of_mem _ hx)
    simp only [jnT, List.length_append, List.length_cons, Nat.mul_succ]
    omega
def u8L (l : List Int) : List UInt8 := l.map fun n => UInt8.ofNat n.toNat
theorem bstr_u8 (l : List Int) : (bstr l).data.toList = u8L l := by simp [bstr, u8L]
theorem join_u8 (s : List Int) (xs : List (List Int)) : Lib.join (xs.map u8L) (u8L s) = u8L (jnT s xs) := by
  cases xs with
  | nil => rfl
  | cons x r =>
    rw [List.map_cons, Lib.join_cons]
    unfold Lib.joinTail jnT
    simp [u8L, List.map_flatMap, List.flatMap_def, Function.comp_def]
theorem join_bstr (s : List Int) (xs : List (List Int)) : Lib.join ((xs.map bstr).map (·.data.toList)) (bstr s).data.toList = u8L (jnT s xs) := by
  rw [bstr_u8, ← join_u8, List.map_map]
  congr 1
theorem joinT_eq (xs : List (List Int)) (s : List Int) : joinT xs s = bstr (jnT s xs) := by
  unfold joinT
  rw [join_bstr]
  rfl
theorem join_len (s : List Int) (xs : List (List Int)) : (Lib.join ((xs.map bstr).map (·.data.toList)) (bstr s).data.toList).length = (jnT s xs).length := by
  rw [join_bstr]; simp [u8L]
theorem bs32 : (ByteArray.mk #[32]) = bstr [32] := rfl
theorem bs0 : (ByteArray.mk #[]) = bstr [] := rfl
end Go.Proofs.YtpjimhkblldhaaaDoor

