/- Contracts of functions of the translated program, by the walk. -/
import Derived.Test.YtjkkallcgplgmaaF3
import Derived.Test.YtjkkallcgplgmaaD4
import Derived.Test.YtjkkallcgplgmaaB3
import Derived.Test.YtjkkallcgplgmaaE3
import Derived.Test.YtjkkallcgplgmaaLD
set_option linter.unusedVariables false
set_option linter.unusedSimpArgs false
set_option maxRecDepth 8000
set_option maxHeartbeats 4000000
namespace Go.Proofs.Ytjkkallcgplgmaa
open Go Go.Sx
/-- A turn from j to k. -/
def pairF (j k : Int) : Nat → Int := upd (upd (fun _ => 0) 0 j) 1 k
theorem pairF_row (j k : Int) : ([.v (.int .i64 j), .v (.int .i64 k)] : List V) = rowL .i64 2 (pairF j k) := rfl
/-- The turns that make the order of the things in their own order: what stands there and the turns after j steps. -/
def tfS (s : List Int × List (Nat → Int)) (j : Nat) (x : Int) : List Int × List (Nat → Int) :=
  if (idxL (fun y => decide (y = x)) s.1).toNat = j then s else (turnL s.1 j (idxL (fun y => decide (y = x)) s.1).toNat, s.2 ++ [pairF j (idxL (fun y => decide (y = x)) s.1).toNat])
def tfN (o : List Int) : Nat → List Int × List (Nat → Int)
  | 0 => (plainL o.length, [])
  | j + 1 => tfS (tfN o j) j (nth0 o j)
def tfInv (o : List Int) (j : Nat) (s : List Int × List (Nat → Int)) : Prop := s.1.length = o.length ∧ s.1.Perm (plainL o.length) ∧ (∀ i, i < j → s.1[i]? = o[i]?) ∧ s.2.length ≤ j
theorem turnL_get_lo {α : Type} {l : List α} {i k x : Nat} (hx : x < i) (hi : i ≤ k) (hk : k < l.length) : (turnL l i k)[x]? = l[x]? := by
  unfold turnL
  rw [List.getElem?_append_left (by simp; omega), List.getElem?_take_of_lt hx]
theorem turnL_get_i {α : Type} {l : List α} {i k : Nat} (hi : i ≤ k) (hk : k < l.length) : (turnL l i k)[i]? = l[k]? := by
  unfold turnL
  rw [List.getElem?_append_right (by simp; omega)]
  simp only [List.length_take, show min i l.length = i by omega, Nat.sub_self]
  rw [List.getElem?_append_left (by simp; omega), List.getElem?_reverse (by simp; omega)]
  simp only [List.length_take, List.length_drop, show min (k + 1 - i) (l.length - i) = k + 1 - i by omega]
  rw [List.getElem?_take_of_lt (by omega), List.getElem?_drop]
  congr 1; omega
theorem plainL_nodup (n : Nat) : (plainL n).Nodup := by
  unfold plainL
  rw [List.Nodup, List.pairwise_map]
  exact List.nodup_range.imp fun h e => h (by omega)
theorem plainL_mem {n : Nat} {x : Int} : x ∈ plainL n ↔ 0 ≤ x ∧ x < n := by
  unfold plainL
  rw [List.mem_map]
  constructor
  · rintro ⟨a, ha, rfl⟩; have := List.mem_range.1 ha; omega
  · intro h; exact ⟨x.toNat, List.mem_range.2 (by omega), by omega⟩
theorem tf_step {o : List Int} (ho : OrdP o o.length) {j : Nat} (hj : j < o.length) {s : List Int × List (Nat → Int)} (hs : tfInv o j s) :
    ∃ k, j ≤ k ∧ k < o.length ∧ idxL (fun y => decide (y = nth0 o j)) s.1 = k ∧ s.1[k]? = some (nth0 o j) ∧ (∀ i, i < k → s.1[i]? ≠ some (nth0 o j)) ∧ tfInv o (j + 1) (tfS s j (nth0 o j)) ∧ tfS s j (nth0 o j) = if k = j then s else (turnL s.1 j k, s.2 ++ [pairF j k]) := by
  obtain ⟨h1, h2, h3, h4⟩ := hs
  have hnth := nth0_at hj
  have hmem : nth0 o j ∈ s.1 := h2.mem_iff.2 (plainL_mem.2 (by rw [hnth]; exact ho.2.1 _ (List.getElem_mem hj)))
  have hnd : s.1.Nodup := h2.nodup_iff.2 (plainL_nodup _)
  obtain ⟨k, hk, hke⟩ := List.mem_iff_getElem.1 hmem
  have hlow : ∀ i, i < k → s.1[i]? ≠ some (nth0 o j) := by
    intro i hi e
    rw [List.getElem?_eq_getElem (by omega)] at e
    have e2 := Option.some.inj e
    rw [← hke] at e2
    have := (List.getElem_inj hnd).1 e2
    omega
  have hidx : idxL (fun y => decide (y = nth0 o j)) s.1 = k := idxL_at hk (decide_eq_true hke) fun i hi hik => decide_eq_false fun e => hlow i hik (by rw [List.getElem?_eq_getElem hi, e])
  have hjk : j ≤ k := by
    apply Nat.le_of_not_lt
    intro hlt
    have e := h3 k hlt
    rw [List.getElem?_eq_getElem hk, hke, List.getElem?_eq_getElem (by omega), hnth] at e
    have := (List.getElem_inj ho.2.2).1 (Option.some.inj e)
    omega
  have heq : tfS s j (nth0 o j) = if k = j then s else (turnL s.1 j k, s.2 ++ [pairF j k]) := by
    unfold tfS; rw [hidx]; rfl
  refine ⟨k, hjk, by omega, hidx, by rw [List.getElem?_eq_getElem hk, hke], hlow, ?_, heq⟩
  rw [heq]
  split
  · rename_i e
    subst e
    refine ⟨h1, h2, fun i hi => ?_, by omega⟩
    rcases Nat.lt_or_ge i k with h5 | h5
    · exact h3 i h5
    · have : i = k := by omega
      subst this
      rw [List.getElem?_eq_getElem hk, hke, List.getElem?_eq_getElem hj, hnth]
  · refine ⟨by rw [turnL_len (by omega) hk, h1], (turnL_perm _ (by omega)).trans h2, fun i hi => ?_, by simp; omega⟩
    rcases Nat.lt_or_ge i j with h5 | h5
    · rw [turnL_get_lo h5 hjk hk]; exact h3 i h5
    · have : i = j := by omega
      subst this
      rw [turnL_get_i hjk hk, List.getElem?_eq_getElem hk, hke, List.getElem?_eq_getElem hj, hnth]
theorem tf_inv {o : List Int} (ho : OrdP o o.length) : ∀ j, j ≤ o.length → tfInv o j (tfN o j)
  | 0, _ => ⟨plainL_len _, List.Perm.refl _, fun i hi => absurd hi (by omega), Nat.le_refl _⟩
  | j + 1, h => by
    obtain ⟨k, _, _, _, _, _, h7, _⟩ := tf_step ho (show j < o.length by omega) (tf_inv ho j (by omega))
    exact h7
/-- The turns of an order. -/
def tfO (o : List Int) : List (Nat → Int) := (tfN o o.length).2

theorem implTurnsFor_err {H : List Blk} {v w : V} {l : List (Nat → Int)} {o : List Int} (h : Rd H v (rowL .u16 12) l) (h2 : Rd H w i64C o) (hl : l.length ≤ 1000000) (hlo : o.length ≤ 1000000) (hc : orC l o ≠ 0) :
    Cal Try.prog 53 [v, w] H fun u H' => u = .t [.v (.slice none 0 0), .v (.int .i64 (orC l o))] ∧ H' = H := by
  have hsol := h.solid
  have hsol2 := h2.solid
  have hne : (orC l o = 0) = False := eq_false hc
  refine cal_fn 47 mixed Try.func53 Try.ntmps53 Try.results53 rfl rfl rfl fun hw cx hx hq => ?_
  repeat (first | (simp only [go_sem, Int.reduceLT, Int.reduceLE, Int.reduceEq, Int.reduceToNat, hsol, hsol2, hne]) | ((with_reducible refine And.intro ?_ ?_); omega) | ((with_reducible refine isSK ?_); first | (refine call_ret (checkOrder h h2 hl hlo) (by simp only [go_sem, Int.reduceLT, Int.reduceLE, Int.reduceEq, Int.reduceToNat, hsol, hsol2, hne]) ?_)) | ((with_reducible refine isMC ?_); first | (refine mcall_ret (checkOrder h h2 hl hlo) (by simp only [go_sem, Int.reduceLT, Int.reduceLE, Int.reduceEq, Int.reduceToNat, hsol, hsol2, hne]) (by simp only [go_sem, Int.reduceLT, Int.reduceLE, Int.reduceEq, Int.reduceToNat, hsol, hsol2, hne]) ?_)) | ((with_reducible refine And.intro ?_ ?_); first | (with_reducible rfl) | assumption | (simp only [go_sem]; done)))
  refine ret_same hq _ (.inl rfl) ?_
  simp [go_sem]
theorem specTurnsFor_err {H : List Blk} {v w : V} {l : List (Nat → Int)} {o : List Int} (h : Rd H v (rowL .u16 12) l) (h2 : Rd H w i64C o) (hk : KC w) (hl : l.length ≤ 1000000) (hlo : o.length ≤ 1000000) (hc : orC l o ≠ 0) :
    Cal Try.prog 52 [v, w] H fun u H' => u = .t [.s H.length 0 0 (.u 0), .v (.int .i64 (orC l o))] ∧ H' = H ++ [⟨[], 69, .own 2⟩] := by
  have hsol := h.solid
  have hsol2 := h2.solid
  have hne : (orC l o = 0) = False := eq_false hc
  refine cal_fn 52 mixed Try.func52 Try.ntmps52 Try.results52 rfl rfl rfl fun hw cx hx hq => ?_
  repeat (first | (simp only [go_sem, Int.reduceLT, Int.reduceLE, Int.reduceEq, Int.reduceToNat, hsol, hsol2, hne]) | ((with_reducible refine And.intro ?_ ?_); omega) | ((with_reducible refine isSK ?_); first | (refine call_ret (l04Ordered h h2 hk hl hlo) (by simp only [go_sem, Int.reduceLT, Int.reduceLE, Int.reduceEq, Int.reduceToNat, hsol, hsol2, hne]) ?_)) | ((with_reducible refine isMC ?_); first | (refine mcall_ret (l04Ordered h h2 hk hl hlo) (by simp only [go_sem, Int.reduceLT, Int.reduceLE, Int.reduceEq, Int.reduceToNat, hsol, hsol2, hne]) (by simp only [go_sem, Int.reduceLT, Int.reduceLE, Int.reduceEq, Int.reduceToNat, hsol, hsol2, hne]) ?_)) | ((with_reducible refine isWKr (id := 10) ?_); refine WK_drawAt 10 [[],[],[0,1],[0,1,2],[],[],[4,5],[4,5,6],[0,1,2,3,4,5,6,7]] (by kernel_rfl) ?_) | ((with_reducible refine And.intro ?_ ?_); first | (with_reducible rfl) | assumption | (simp only [go_sem]; done)))
  refine ret_at hq _ (.inl rfl) (by simp) ?_
  simp [go_sem]
end Go.Proofs.Ytjkkallcgplgmaa

