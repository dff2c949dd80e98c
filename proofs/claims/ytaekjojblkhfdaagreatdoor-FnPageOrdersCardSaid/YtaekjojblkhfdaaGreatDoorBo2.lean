/- Contracts of functions of the translated program, by the walk. -/
import Derived.Test.YtaekjojblkhfdaaGreatDoorBo1
set_option linter.unusedVariables false
set_option linter.unusedSimpArgs false
set_option maxRecDepth 8000
set_option maxHeartbeats 16000000
namespace Go.Proofs.YtaekjojblkhfdaaGreatDoor
open Go Go.Sx
theorem hz1 : ∀ x : Int, (i64C x).length = 1 := fun _ => rfl
theorem cloneI {H : List Blk} {i off : Nat} {c : Cap} {b : Blk} {l : List Int} (h : At H i off (l.flatMap i64C) b) (hf : off + (l.flatMap i64C).length ≤ b.cells.length) (hl : l.length ≤ 1000000) :
    Cal Tryz.prog 74 [.s i off l.length c] H fun u H' => u = .s H.length 0 l.length (.u 0) ∧ H' = H ++ [⟨l.flatMap i64C, 2, .own 1⟩] := by
  refine cal_fn 7 mixed Tryz.func74 Tryz.ntmps74 Tryz.results74 rfl rfl rfl fun hw cx hx hq => ?_
  have hfl := Flat.flen flat_i64 l
  rw [hfl] at hf
  have hn : norefH H.length H := norefH_wf hw (Nat.le_refl _)
  have hij : (i = H.length) = False := eq_false (by have := h.lt; omega)
  have ha := h.all hz1
  rw [Nat.mul_one] at ha hf
  simp only [go_sem, h.get, h.live, h.lt, ha, hn, hij, hx]
  repeat (refine And.intro (by omega) ?_)
  refine ret_at hq _ (.inl rfl) (by simp) ?_
  simp only [go_sem]
def tabK (l : List (Nat → Int)) (i k c : Nat) : Int := if (c / 8 < i ∧ c % 8 < l.length) ∨ (c / 8 = i ∧ c % 8 < k) then jmp l (c / 8) (c % 8) else 0
theorem tabK_zero (l : List (Nat → Int)) : tabK l 0 0 = fun _ => 0 := by
  funext c; unfold tabK; rw [if_neg (by omega)]
theorem tabK_succ {l : List (Nat → Int)} {i k : Nat} (hk : k < l.length) (h8 : l.length ≤ 8) : upd (tabK l i k) (i * 8 + k) (jmp l i k) = tabK l i (k + 1) := by
  funext c
  unfold upd tabK
  by_cases e : c = i * 8 + k
  · have h1 : c / 8 = i := by omega
    have h2 : c % 8 = k := by omega
    rw [if_pos e, if_pos (.inr ⟨h1, by omega⟩), h1, h2]
  · rw [if_neg e]
    by_cases h : (c / 8 < i ∧ c % 8 < l.length) ∨ (c / 8 = i ∧ c % 8 < k)
    · rw [if_pos h, if_pos (by omega)]
    · rw [if_neg h, if_neg (by omega)]
theorem tabK_row (l : List (Nat → Int)) (i : Nat) : tabK l i l.length = tabK l (i + 1) 0 := by
  funext c
  unfold tabK
  by_cases h : (c / 8 < i ∧ c % 8 < l.length) ∨ (c / 8 = i ∧ c % 8 < l.length)
  · rw [if_pos h, if_pos (by omega)]
  · rw [if_neg h, if_neg (by omega)]
def tabL (l : List (Nat → Int)) : Nat → Int := tabK l l.length 0
theorem tabL_at {l : List (Nat → Int)} {i k : Nat} (hi : i < l.length) (hk : k < l.length) (h8 : l.length ≤ 8) : tabL l (i * 8 + k) = jmp l i k := by
  have h1 : (i * 8 + k) / 8 = i := by omega
  have h2 : (i * 8 + k) % 8 = k := by omega
  unfold tabL tabK
  rw [if_pos (.inl ⟨by omega, by omega⟩), h1, h2]
theorem l04Table {H : List Blk} {v : V} {l : List (Nat → Int)} (h : Rd H v (rowL .u16 12) l) (h12 : ∀ f ∈ l, F12 f) (h8 : l.length ≤ 8) :
    Cal Tryz.prog 47 [v] H fun u H' => u = .a (rowL .i64 64 (tabL l)) ∧ H' = H := by
  have hsol := h.solid
  have hL := h.lenV (P := Tryz.prog) slTy25
  refine cal_fn 27 mixed Tryz.func47 Tryz.ntmps47 Tryz.results47 rfl rfl rfl fun hw cx hx hq => ?_
  repeat ((simp only [go_sem, Int.reduceLT, Int.reduceLE, Int.reduceEq, Int.reduceToNat, hsol, hL, rowL_rep]) )
  refine WK_for (fun i : Nat => ⟨[v, .any, .p H.length 0, .p (H.length + 1) 0, .v (.int .i64 i)] ++ junk 23, H ++ [⟨rowL .i64 64 fun _ => 0, 74, .fix⟩, ⟨rowL .i64 64 (tabK l i 0), 74, .fix⟩]⟩) (fun i => i ≤ l.length) (fun i => l.length - i) 0 (Weak.slots ?_) ?_ fun i hi => ?_
  · simp [go_sem, tabK_zero]
  · simp
  rcases Int.lt_or_le (i : Int) l.length with hc | hc
  · have hci : ((i : Int) < (l.length : Int)) = True := eq_true hc
    repeat ((simp only [go_sem, Int.reduceLT, Int.reduceLE, Int.reduceEq, Int.reduceToNat, hL, hci]) )
    refine WK_for (fun k : Nat => ⟨[v, .any, .p H.length 0, .p (H.length + 1) 0, .v (.int .i64 i), .v (.int .i64 k)] ++ junk 22, H ++ [⟨rowL .i64 64 fun _ => 0, 74, .fix⟩, ⟨rowL .i64 64 (tabK l i k), 74, .fix⟩]⟩) (fun k => k ≤ l.length) (fun k => l.length - k) 0 (Weak.slots ?_) ?_ fun k hk => ?_
    · simp [go_sem]
    · simp
    rcases Int.lt_or_le (k : Int) l.length with hc2 | hc2
    · have hck : ((k : Int) < (l.length : Int)) = True := eq_true hc2
      have hwr := rowL_wr .i64 64 (tabK l i k) (j := i * 8 + k) (by omega) (jmp l i k)
      rw [tabK_succ (by omega) h8] at hwr
      repeat (first | (simp only [go_sem, Int.reduceLT, Int.reduceLE, Int.reduceEq, Int.reduceToNat, hsol, hL, hck, hwr, Int.toNat_natCast]) | ((with_reducible refine And.intro ?_ ?_); omega) | ((with_reducible refine isMC ?_); refine mcall_ret (l04Jump h.app h12 (by omega) (by omega)) ?_ ?_ ?_) | ((with_reducible refine isWKr (id := 8) ?_); refine WK_drawAt 8 [[],[],[],[],[],[2,3,4],[0],[0,1,2,3,4,5,6],[0,1,2,3,4,5,6,7]] (by kernel_rfl) ?_) )
      refine EK_again (k + 1) (Weak.slots ?_) (by omega) (by omega)
      simp [go_sem]
    · have : k = l.length := by omega
      subst this
      have hck : ((l.length : Int) < (l.length : Int)) = False := eq_false (by omega)
      rw [tabK_row]
      repeat (first | (simp only [go_sem, Int.reduceLT, Int.reduceLE, Int.reduceEq, Int.reduceToNat, hL, hck]) | ((with_reducible refine And.intro ?_ ?_); omega) )
      refine EK_again (i + 1) (Weak.slots ?_) (by omega) (by omega)
      simp [go_sem]
  · have : i = l.length := by omega
    subst this
    have hci : ((l.length : Int) < (l.length : Int)) = False := eq_false (by omega)
    repeat ((simp only [go_sem, Int.reduceLT, Int.reduceLE, Int.reduceEq, Int.reduceToNat, hL, hci]) )
    refine ret_cut hq hw _ (.inl rfl) ?_
    simp [go_sem, tabL]
end Go.Proofs.YtaekjojblkhfdaaGreatDoor
