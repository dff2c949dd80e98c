/- Contracts of functions of the translated program, by the walk. -/
import Derived.Test.YtaekjojblkhfdaaGreatE4
import Derived.Test.YtaekjojblkhfdaaGreatC2
import Derived.Test.YtaekjojblkhfdaaGreatLD
import Derived.Test.YtaekjojblkhfdaaGreatT1
import Derived.Shelf.Spec.SlicesInsertGrow
import Derived.Laws.CopyRow
import Derived.WalkKit
import Derived.Test.YtaekjojblkhfdaaGreatC3
set_option linter.unusedVariables false
set_option linter.unusedSimpArgs false
set_option maxRecDepth 8000
set_option maxHeartbeats 16000000
namespace Go.Proofs.YtaekjojblkhfdaaGreat
open Go Go.Sx
/-- A turn from j to k. -/
def pairF (j k : Int) : Nat → Int := upd (upd (fun _ => 0) 0 j) 1 k
theorem pairF_row (j k : Int) : ([.v (.int .i64 j), .v (.int .i64 k)] : List V) = rowL .i64 2 (pairF j k) := rfl
/-- The turns that make the order of the things in their own order: what stands there and the turns after j steps. -/
def tfS (s : List Int × List (Nat → Int)) (j : Nat) (x : Int) : List Int × List (Nat → Int) :=
  if (idxL (fun y => decide (y = x)) s.1).toNat = j then s else (turnL s.1 j (idxL (fun y => decide (y = x)) s.1).toNat, s.2 ++ [pairF j (idxL (fun y => decide (y = x)) s.1).toNat])
def tfN (o : List Int) : Nat → List Int × List (Nat → Int)
  | 0 => (plainL o.length, [])
  | j + 1 => tfS (tfN o j) j (nth0 o j)
def tfInv (o : List Int) (j : Nat) (s : List Int × List (Nat → Int)) : Prop := s.1.length = o.length ∧ s.1.Perm (plainL o.length) ∧ (∀ i, i < j → s.1[i]? = o[i]?) ∧ s.2.length ≤ j
theorem turnL_get_lo {α : Type} {l : List α} {i k x : Nat} (hx : x < i) (hi : i ≤ k) (hk : k < l.length) : (turnL l i k)[x]? = l[x]? := by
  unfold turnL
  rw [List.getElem?_append_left (by simp; omega), List.getElem?_take_of_lt hx]
theorem turnL_get_i {α : Type} {l : List α} {i k : Nat} (hi : i ≤ k) (hk : k < l.length) : (turnL l i k)[i]? = l[k]? := by
  unfold turnL
  rw [List.getElem?_append_right (by simp; omega)]
  simp only [List.length_take, show min i l.length = i by omega, Nat.sub_self]
  rw [List.getElem?_append_left (by simp; omega), List.getElem?_reverse (by simp; omega)]
  simp only [List.length_take, List.length_drop, show min (k + 1 - i) (l.length - i) = k + 1 - i by omega]
  rw [List.getElem?_take_of_lt (by omega), List.getElem?_drop]
  congr 1; omega
theorem plainL_nodup (n : Nat) : (plainL n).Nodup := by
  unfold plainL
  rw [List.Nodup, List.pairwise_map]
  exact List.nodup_range.imp fun h e => h (by omega)
theorem plainL_mem {n : Nat} {x : Int} : x ∈ plainL n ↔ 0 ≤ x ∧ x < n := by
  unfold plainL
  rw [List.mem_map]
  constructor
  · rintro ⟨a, ha, rfl⟩; have := List.mem_range.1 ha; omega
  · intro h; exact ⟨x.toNat, List.mem_range.2 (by omega), by omega⟩
theorem tf_step {o : List Int} (ho : OrdP o o.length) {j : Nat} (hj : j < o.length) {s : List Int × List (Nat → Int)} (hs : tfInv o j s) :
    ∃ k, j ≤ k ∧ k < o.length ∧ idxL (fun y => decide (y = nth0 o j)) s.1 = k ∧ s.1[k]? = some (nth0 o j) ∧ (∀ i, i < k → s.1[i]? ≠ some (nth0 o j)) ∧ tfInv o (j + 1) (tfS s j (nth0 o j)) ∧ tfS s j (nth0 o j) = if k = j then s else (turnL s.1 j k, s.2 ++ [pairF j k]) := by
  obtain ⟨h1, h2, h3, h4⟩ := hs
  have hnth := nth0_at hj
  have hmem : nth0 o j ∈ s.1 := h2.mem_iff.2 (plainL_mem.2 (by rw [hnth]; exact ho.2.1 _ (List.getElem_mem hj)))
  have hnd : s.1.Nodup := h2.nodup_iff.2 (plainL_nodup _)
  obtain ⟨k, hk, hke⟩ := List.mem_iff_getElem.1 hmem
  have hlow : ∀ i, i < k → s.1[i]? ≠ some (nth0 o j) := by
    intro i hi e
    rw [List.getElem?_eq_getElem (by omega)] at e
    have e2 := Option.some.inj e
    rw [← hke] at e2
    have := (List.getElem_inj hnd).1 e2
    omega
  have hidx : idxL (fun y => decide (y = nth0 o j)) s.1 = k := idxL_at hk (decide_eq_true hke) fun i hi hik => decide_eq_false fun e => hlow i hik (by rw [List.getElem?_eq_getElem hi, e])
  have hjk : j ≤ k := by
    apply Nat.le_of_not_lt
    intro hlt
    have e := h3 k hlt
    rw [List.getElem?_eq_getElem hk, hke, List.getElem?_eq_getElem (by omega), hnth] at e
    have := (List.getElem_inj ho.2.2).1 (Option.some.inj e)
    omega
  have heq : tfS s j (nth0 o j) = if k = j then s else (turnL s.1 j k, s.2 ++ [pairF j k]) := by
    unfold tfS; rw [hidx]; rfl
  refine ⟨k, hjk, by omega, hidx, by rw [List.getElem?_eq_getElem hk, hke], hlow, ?_, heq⟩
  rw [heq]
  split
  · rename_i e
    subst e
    refine ⟨h1, h2, fun i hi => ?_, by omega⟩
    rcases Nat.lt_or_ge i k with h5 | h5
    · exact h3 i h5
    · have : i = k := by omega
      subst this
      rw [List.getElem?_eq_getElem hk, hke, List.getElem?_eq_getElem hj, hnth]
  · refine ⟨by rw [turnL_len (by omega) hk, h1], (turnL_perm _ (by omega)).trans h2, fun i hi => ?_, by simp; omega⟩
    rcases Nat.lt_or_ge i j with h5 | h5
    · rw [turnL_get_lo h5 hjk hk]; exact h3 i h5
    · have : i = j := by omega
      subst this
      rw [turnL_get_i hjk hk, List.getElem?_eq_getElem hk, hke, List.getElem?_eq_getElem hj, hnth]
theorem tf_inv {o : List Int} (ho : OrdP o o.length) : ∀ j, j ≤ o.length → tfInv o j (tfN o j)
  | 0, _ => ⟨plainL_len _, List.Perm.refl _, fun i hi => absurd hi (by omega), Nat.le_refl _⟩
  | j + 1, h => by
    obtain ⟨k, _, _, _, _, _, h7, _⟩ := tf_step ho (show j < o.length by omega) (tf_inv ho j (by omega))
    exact h7
/-- The turns of an order. -/
def tfO (o : List Int) : List (Nat → Int) := (tfN o o.length).2

end Go.Proofs.YtaekjojblkhfdaaGreat
namespace Go.Proofs.YtaekjojblkhfdaaGreat
open Go Go.Sx
theorem implTurnsFor_nil {H : List Blk} {v w : V} {l : List (Nat → Int)} (h : Rd H v (rowL .u16 12) l) (h2 : Rd H w i64C []) (hl : l.length ≤ 1000000) (hc : orC l [] = 0) :
    Cal Tryz.prog 7 [v, w] H fun u H' => u = .t [.s H.length 0 0 (.u 0), .v (.int .i64 0)] ∧ H' = H ++ [⟨[], 41, .own 2⟩] := by
  have hsol := h.solid
  have hsol2 := h2.solid
  have hL := h2.lenV (P := Tryz.prog) slTy27
  have hvl : V.lt H.length w = True := h2.vlt (Nat.le_refl _)
  have hcl : cellsL w = [w] := by
    rcases h2 with ⟨rfl, _⟩ | ⟨i, off, c, b, rfl, _⟩ <;> rfl
  refine cal_fn 47 mixed Tryz.func7 Tryz.ntmps7 Tryz.results7 rfl rfl rfl fun hw cx hx hq => ?_
  repeat (first | (simp only [go_sem, Int.reduceLT, Int.reduceLE, Int.reduceEq, Int.reduceToNat, hsol, hsol2, hc, hL, hcl]) | ((with_reducible refine And.intro ?_ ?_); omega) | ((with_reducible refine isSK ?_); first | (refine call_ret (checkOrder h h2 hl (by simp)) (by simp only [go_sem, Int.reduceLT, Int.reduceLE, Int.reduceEq, Int.reduceToNat, hsol, hsol2, hc, hL, hcl]) ?_) | (refine call_ret (valuesC hsol2) (by simp only [go_sem, Int.reduceLT, Int.reduceLE, Int.reduceEq, Int.reduceToNat, hsol, hsol2, hc, hL, hcl]) ?_) | (refine call_ret (sortedNil (h2.app) (by first | exact (Go.Sx.get_at0 _ _).trans rfl | exact (Go.Sx.get_at _ _ 1).trans rfl | exact (Go.Sx.get_at _ _ 2).trans rfl | exact (Go.Sx.get_at _ _ 3).trans rfl | exact (Go.Sx.get_at _ _ 4).trans rfl | exact (Go.Sx.get_at _ _ 5).trans rfl | exact (Go.Sx.get_at _ _ 6).trans rfl | exact (Go.Sx.get_at _ _ 7).trans rfl | exact (Go.Sx.get_at _ _ 8).trans rfl | exact (Go.Sx.get_at _ _ 9).trans rfl | exact (Go.Sx.get_at _ _ 10).trans rfl | exact (Go.Sx.get_at _ _ 11).trans rfl | exact (Go.Sx.get_at _ _ 12).trans rfl | exact (Go.Sx.get_at _ _ 13).trans rfl | exact (Go.Sx.get_at _ _ 14).trans rfl | exact (Go.Sx.get_at _ _ 15).trans rfl)) (by simp only [go_sem, Int.reduceLT, Int.reduceLE, Int.reduceEq, Int.reduceToNat, hsol, hsol2, hc, hL, hcl]) ?_)) | ((with_reducible refine And.intro ?_ ?_); first | (with_reducible rfl) | assumption | (simp only [go_sem]; done)))
  refine WK_for (fun j : Nat => ⟨[v, w, .any, .any, .any, .any, .any, .v (.slice none 0 0), .s (H.length + 1) 0 0 (.u 0), .any, .any, .any, .any, .any, .any, .any, .any, .any, .any, .any, .any, .any, w, .v (.int .i64 (0 : Nat)), .v (.int .i64 j)] ++ junk 24, H ++ [⟨[w], 27, .fix⟩, ⟨[], 41, .own 2⟩]⟩) (fun j => j = 0) (fun j => j) 0 (Weak.slots ?_) ?_ fun j hj => ?_
  · simp [go_sem]
  · simp
  have hc3 : ¬ ((j : Int) < ((0 : Nat) : Int)) := by omega
  repeat (first | (simp only [go_sem, Int.reduceLT, Int.reduceLE, Int.reduceEq, Int.reduceToNat, hL, hc3]) | ((with_reducible refine And.intro ?_ ?_); omega) | ((with_reducible refine And.intro ?_ ?_); first | (with_reducible rfl) | assumption | (simp only [go_sem]; done)))
  refine ret_one hq hw _ (.inl rfl) 1 rfl (by simp [go_sem]) (.t [.s H.length 0 0 (.u 0), .v (.int .i64 0)]) (by simp [go_sem]) ?_
  simp [go_sem, conc, concs, upσ, Cap.val]
theorem implTurnsFor_ok {H : List Blk} {v w : V} {l : List (Nat → Int)} {o : List Int} (h : Rd H v (rowL .u16 12) l) (h2 : Rd H w i64C o) (hl : l.length ≤ 1000000) (hlo : o.length ≤ 1000000) (hc : orC l o = 0) (hne : o ≠ []) :
    Cal Tryz.prog 7 [v, w] H fun u H' => u = .t [.s H.length 0 (tfO o).length (.u 0), .v (.int .i64 0)] ∧ H' = H ++ [⟨(tfO o).flatMap (rowL .i64 2), 41, .own 2⟩] := by
  have hsol := h.solid
  have hsol2 := h2.solid
  have hL := h2.lenV (P := Tryz.prog) slTy27
  have hvl : V.lt H.length w = True := h2.vlt (Nat.le_refl _)
  have hcl : cellsL w = [w] := by
    rcases h2 with ⟨rfl, _⟩ | ⟨i, off, c, b, rfl, _⟩ <;> rfl
  have hOrd := (orC_ok hc).2
  have ho : OrdP o o.length := by rw [hOrd.1]; exact hOrd
  have hsp : sortL o = plainL o.length := sortL_plain ho
  refine cal_fn 47 mixed Tryz.func7 Tryz.ntmps7 Tryz.results7 rfl rfl rfl fun hw cx hx hq => ?_
  repeat (first | (simp only [go_sem, Int.reduceLT, Int.reduceLE, Int.reduceEq, Int.reduceToNat, hsol, hsol2, hc, hL, hcl, hsp]) | ((with_reducible refine And.intro ?_ ?_); omega) | ((with_reducible refine isSK ?_); first | (refine call_ret (checkOrder h h2 hl hlo) (by simp only [go_sem, Int.reduceLT, Int.reduceLE, Int.reduceEq, Int.reduceToNat, hsol, hsol2, hc, hL, hcl, hsp]) ?_) | (refine call_ret (valuesC hsol2) (by simp only [go_sem, Int.reduceLT, Int.reduceLE, Int.reduceEq, Int.reduceToNat, hsol, hsol2, hc, hL, hcl, hsp]) ?_) | (refine call_ret (sortedC (l := o) (h2.app) hlo (by first | exact (Go.Sx.get_at0 _ _).trans rfl | exact (Go.Sx.get_at _ _ 1).trans rfl | exact (Go.Sx.get_at _ _ 2).trans rfl | exact (Go.Sx.get_at _ _ 3).trans rfl | exact (Go.Sx.get_at _ _ 4).trans rfl | exact (Go.Sx.get_at _ _ 5).trans rfl | exact (Go.Sx.get_at _ _ 6).trans rfl | exact (Go.Sx.get_at _ _ 7).trans rfl | exact (Go.Sx.get_at _ _ 8).trans rfl | exact (Go.Sx.get_at _ _ 9).trans rfl | exact (Go.Sx.get_at _ _ 10).trans rfl | exact (Go.Sx.get_at _ _ 11).trans rfl | exact (Go.Sx.get_at _ _ 12).trans rfl | exact (Go.Sx.get_at _ _ 13).trans rfl | exact (Go.Sx.get_at _ _ 14).trans rfl | exact (Go.Sx.get_at _ _ 15).trans rfl) hne) (by simp only [go_sem, Int.reduceLT, Int.reduceLE, Int.reduceEq, Int.reduceToNat, hsol, hsol2, hc, hL, hcl, hsp]) ?_)) | ((with_reducible refine And.intro ?_ ?_); first | (with_reducible rfl) | assumption | (simp only [go_sem]; done)))
  refine WK_for (fun j : Nat => ⟨[v, w, .any, .any, .any, .any, .any, .s (H.length + 1) 0 o.length (.u 0), .s (H.length + 2) 0 (tfN o j).2.length (.u 0), .any, .any, .any, .any, .any, .any, .any, .any, .any, .any, .any, .any, .any, w, .v (.int .i64 o.length), .v (.int .i64 j)] ++ junk 24, H ++ [⟨[w], 27, .fix⟩, ⟨(tfN o j).1.flatMap i64C, 2, .own 1⟩, ⟨(tfN o j).2.flatMap (rowL .i64 2), 41, .own 2⟩]⟩) (fun j => j ≤ o.length) (fun j => o.length - j) 0 (Weak.slots ?_) ?_ fun j hj => ?_
  · simp [go_sem, tfN]
  · simp
  have hinv := tf_inv ho j hj
  have hnl := hinv.1
  have hol := hinv.2.2.2
  rcases Int.lt_or_le (j : Int) o.length with hcj | hcj
  · have hjo : j < o.length := by omega
    obtain ⟨i2, off2, c2, b2, rfl, hat2, hfit2⟩ := h2.full (by omega)
    have hcel := hat2.i64 hjo
    have hfit := hat2.fits i64C 1 (fun _ => rfl) hjo (by omega)
    have hlt2 := hat2.lt
    have g2 : ∀ L : List Blk, (H ++ L)[i2]? = some b2 := fun L => get_app hat2.get
    obtain ⟨k, hjk, hko, hidx, hgk, hlow, hinv2, heq⟩ := tf_step ho hjo hinv
    have hnth := nth0_at hjo
    rw [hnth] at hidx hgk heq
    have hN : tfN o (j + 1) = if k = j then tfN o j else (turnL (tfN o j).1 j k, (tfN o j).2 ++ [pairF j k]) := by
      rw [← heq, ← hnth]; rfl
    by_cases e : k = j
    · rw [if_pos e] at hN
      have e1 : ((k : Int) = (j : Int)) = True := eq_true (by omega)
      repeat (first | (simp only [go_sem, Int.reduceLT, Int.reduceLE, Int.reduceEq, Int.reduceToNat, hcj, g2, hat2.live, hcel, hfit, hlt2, hidx, e1]) | ((with_reducible refine And.intro ?_ ?_); omega) | ((with_reducible refine isSK ?_); first | (refine call_ret (slicesIndex (l := (tfN o j).1) (Rd.own 1 rfl rfl (by omega)) (by omega)) (by simp only [go_sem, Int.reduceLT, Int.reduceLE, Int.reduceEq, Int.reduceToNat, hcj, g2, hat2.live, hcel, hfit, hlt2, hidx, e1]) ?_)) | ((with_reducible refine And.intro ?_ ?_); first | (with_reducible rfl) | assumption | (simp only [go_sem]; done)))
      refine EK_again (j + 1) ?_ (by omega) (by omega)
      rw [hN]
      exact Weak.slots (by simp [go_sem])
    · rw [if_neg e] at hN
      have e1 : ((k : Int) = (j : Int)) = False := eq_false (by omega)
      have e0 : ((j : Int) = (o.length : Int)) = False := eq_false (by omega)
      have t1 : ((k : Int) + 1).toNat = k + 1 := by omega
      have hrv := revW_turn (L := (tfN o j).1) hjk (by omega)
      have hfl : ((tfN o j).1.flatMap i64C).length = o.length := by rw [flat_i64.flen, Nat.mul_one, hnl]
      have hn1 : norefH (H.length + 2) H := norefH_wf hw (by omega)
      have hfv := h.forget (n := H.length + 2) (by omega)
      have hd1 : (H.length = H.length + 1) = False := eq_false (by omega)
      have hd2 : (H.length + 1 = H.length) = False := eq_false (by omega)
      have hd3 : (i2 = H.length + 2) = False := eq_false (by omega)
      have hn2 : norefs (H.length + 2) ((turnL (tfN o j).1 j k).flatMap i64C) = true := flat_i64.norefs _ _
      have hn3 : norefs (H.length + 2) ((tfN o j).2.flatMap (rowL .i64 2)) = true := (flat_rowL .i64 2).norefs _ _
      have hfl2 : ((tfN o j).2.flatMap (rowL .i64 2)).length = (tfN o j).2.length * 2 := (flat_rowL .i64 2).flen _
      repeat (first | (simp only [go_sem, Int.reduceLT, Int.reduceLE, Int.reduceEq, Int.reduceToNat, hcj, g2, hat2.live, hcel, hfit, hlt2, hidx, e1, e0, hfl, hrv, t1, hn1, hfv, hd1, hd2, hd3, hn2, hn3, hfl2, hx, forget_t]) | ((with_reducible refine And.intro ?_ ?_); omega) | ((with_reducible refine isSK ?_); first | (refine call_ret (slicesIndex (l := (tfN o j).1) (Rd.own 1 rfl rfl (by omega)) (by omega)) (by simp only [go_sem, Int.reduceLT, Int.reduceLE, Int.reduceEq, Int.reduceToNat, hcj, g2, hat2.live, hcel, hfit, hlt2, hidx, e1, e0, hfl, hrv, t1, hn1, hfv, hd1, hd2, hd3, hn2, hn3, hfl2, hx, forget_t]) ?_) | (refine call_ret (reverseI (a := j) (n := k + 1 - j) (L := (tfN o j).1) (by first | exact (Go.Sx.get_at0 _ _).trans rfl | exact (Go.Sx.get_at _ _ 1).trans rfl | exact (Go.Sx.get_at _ _ 2).trans rfl | exact (Go.Sx.get_at _ _ 3).trans rfl | exact (Go.Sx.get_at _ _ 4).trans rfl | exact (Go.Sx.get_at _ _ 5).trans rfl | exact (Go.Sx.get_at _ _ 6).trans rfl | exact (Go.Sx.get_at _ _ 7).trans rfl | exact (Go.Sx.get_at _ _ 8).trans rfl | exact (Go.Sx.get_at _ _ 9).trans rfl | exact (Go.Sx.get_at _ _ 10).trans rfl | exact (Go.Sx.get_at _ _ 11).trans rfl | exact (Go.Sx.get_at _ _ 12).trans rfl | exact (Go.Sx.get_at _ _ 13).trans rfl | exact (Go.Sx.get_at _ _ 14).trans rfl | exact (Go.Sx.get_at _ _ 15).trans rfl) (by rfl) (by omega) (by omega)) (by simp only [go_sem, Int.reduceLT, Int.reduceLE, Int.reduceEq, Int.reduceToNat, hcj, g2, hat2.live, hcel, hfit, hlt2, hidx, e1, e0, hfl, hrv, t1, hn1, hfv, hd1, hd2, hd3, hn2, hn3, hfl2, hx, forget_t]) ?_)) | ((with_reducible refine And.intro ?_ ?_); first | (with_reducible rfl) | assumption | (simp only [go_sem]; done)))
      refine EK_again (j + 1) ?_ (by omega) (by omega)
      rw [hN, flat_snoc, ← pairF_row]
      have hvl3 : V.lt (H.length + 3) v = True := h.vlt (by omega)
      exact Weak.keepN rfl (by simp [go_sem] <;> omega) (by simp [hx]) (by simp [go_sem, flat_i64.lts, (flat_rowL .i64 2).lts, hlt2, hvl3] <;> omega) (hw.app (by simp [go_sem, flat_i64.lts, (flat_rowL .i64 2).lts, hlt2, hvl3] <;> omega))
  · have : j = o.length := by omega
    subst this
    repeat (first | (simp only [go_sem, Int.reduceLT, Int.reduceLE, Int.reduceEq, Int.reduceToNat, Int.not_lt.2 hcj]) | ((with_reducible refine And.intro ?_ ?_); omega) | ((with_reducible refine And.intro ?_ ?_); first | (with_reducible rfl) | assumption | (simp only [go_sem]; done)))
    refine ret_one hq hw _ (.inl rfl) 2 rfl (of_eq_true ((flat_rowL .i64 2).lts _ _)) (.t [.s H.length 0 (tfO o).length (.u 0), .v (.int .i64 0)]) (by simp [go_sem]) ?_
    simp [go_sem, conc, concs, upσ, Cap.val, tfO]
end Go.Proofs.YtaekjojblkhfdaaGreat
namespace Go.Proofs.YtaekjojblkhfdaaGreat
open Go Go.Sx
theorem implTurnsFor_all {H : List Blk} {v w : V} {l : List (Nat → Int)} {o : List Int} (h : Rd H v (rowL .u16 12) l) (h2 : Rd H w i64C o) (hl : l.length ≤ 1000000) (hlo : o.length ≤ 1000000) (hc : orC l o = 0) :
    Cal Tryz.prog 7 [v, w] H fun u H' => u = .t [.s H.length 0 (tfO o).length (.u 0), .v (.int .i64 0)] ∧ H' = H ++ [⟨(tfO o).flatMap (rowL .i64 2), 41, .own 2⟩] := by
  by_cases hne : o = []
  · subst hne
    exact implTurnsFor_nil h h2 hl hc
  · exact implTurnsFor_ok h h2 hl hlo hc hne
end Go.Proofs.YtaekjojblkhfdaaGreat
namespace Go.Proofs.YtaekjojblkhfdaaGreat
open Go Go.Sx
open Go.Proofs Go.Shelf Go.RowKit Go.Lib
theorem run_copy_wide {P : Program} (w : World) (dT sT ty elem : TypeId) (z : Nat) (g o dLen dCap : Nat) (a : Addr) (sLen sCap n : Nat) (cur : Array Value) (t : TypeId) (cs : List Value)
    (hu : P.underlying dT = some (.slice elem)) (hs : (P.info? elem).map (·.size) = some z) (hm : Nat.min sLen dLen = n)
    (hg : w.heap[g]? = some (.cells cur t (0, 0))) (hn : cs.length = n * z)
    (hsrc : ∀ j v, cs[j]? = some v → w.cell? (a.add j) = some v) (hfit : o + cs.length ≤ cur.size) (h1 : ∀ v ∈ cs, v.oneCell' = true) :
    (Builtin.copy_ #[dT, sT] ty #[.slice (some ⟨g, o, none⟩) dLen dCap, .slice (some a) sLen sCap]).run P w =
      .ok (goInt n) (w.setRow g (cur.toList.take o ++ cs ++ cur.toList.drop (o + cs.length)).toArray) := by
  have hl := run_loadCells_list (P := P) w a cs hsrc
  have hst := run_storeCells_at P g o t cs 0 cur w hg (by simpa using hfit) h1
  cases hq : P.info? elem with
  | none => simp [hq] at hs
  | some i =>
    have hi : i.size = z := by simpa [hq] using hs
    simp [Builtin.copy_, run_underlying hu, Builtin.lenOf, Builtin.firstCells, sizeOf, typeInfo, hq, hi, hm, ← hn, hl, hst]
theorem frameSize : (Tryz.prog.info? 63).map (·.size) = some 12 := by kernel_rfl
theorem run_size12 (w : World) : (Go.sizeOf 63).run Tryz.prog w = .ok 12 w := by
  obtain ⟨i, hi, hs⟩ := Option.map_eq_some_iff.1 frameSize
  simp [Go.sizeOf, typeInfo, hi, hs]
set_option maxHeartbeats 4000000 in
set_option maxRecDepth 100000 in
/-- slices.Insert of one page ahead of a page, where there is room: in place. -/
theorem insShift (b n c i vb vc : Nat) (cur : Array Value) (cs vs : List Value) (tv : TypeId) (curV : Array Value) (w : World) (hi : i < n) (hroom : n + 1 ≤ c) (hc63 : c ≤ 9223372036854775807) (hvb : vb ≠ b) (hn9 : n ≤ 1000000)
    (hb : w.heap[b]? = some (.cells cur 63 (0, 0))) (hv : w.heap[vb]? = some (.cells curV tv (0, 0))) (hsz : cur.size = c * 12)
    (hcl : cs.length = n * 12) (hvl : vs.length = 12) (hcs : cur.toList.take (n * 12) = cs) (hvs : curV.toList.take 12 = vs) (h1c : ∀ v ∈ cs, v.oneCell' = true) (h1v : ∀ v ∈ vs, v.oneCell' = true) :
    Calls Tryz.prog 55 #[.slice (some ⟨b, 0, none⟩) n c, .int .i64 i, .slice (some ⟨vb, 0, none⟩) 1 vc] w fun e w' =>
      e = .returned (.slice (some ⟨b, 0, none⟩) (n + 1) c) ∧ ∃ cur' q, w' = (w.drewN q).setRow b cur' ∧ cur'.size = c * 12 ∧ cur'.toList.take ((n + 1) * 12) = cs.take (i * 12) ++ vs ++ cs.drop (i * 12) := by
  have hz1 : ¬ ((i : Int) = (n : Int)) := by omega
  have hz2 : ¬ ((c : Int) < (n : Int) + 1) := by omega
  have hw1 : IntKind.i64.wrap ((n : Int) + 1) = (n : Int) + 1 := by rw [IntKind.wrap_i64]; omega
  have hw2 : IntKind.i64.wrap ((i : Int) + 1) = (i : Int) + 1 := by rw [IntKind.wrap_i64]; omega
  have hov : ∀ lb cb, (callFunc 76 #[.slice (some ⟨vb, 0, none⟩) 1 vc, .slice (some ⟨b, (i + 1) * 12, none⟩) lb cb]).run Tryz.prog w = .ok (.value (.bool false)) w := fun lb cb => by
    rw [run_callFunc_extern Tryz.func76 (by kernel_rfl) (by kernel_rfl) (by kernel_rfl) (e := Extern.SlicesOverlaps.overlaps #[24, 24] #[4]) (by kernel_rfl),
      Lib.run_overlaps_apart w 24 4 63 Tryz.underlying24 12 run_size12 ⟨vb, 0, none⟩ ⟨b, (i + 1) * 12, none⟩ 1 vc lb cb hvb tv 63 curV.size cur.size (by simp [World.shape?, hv]) (by simp [World.shape?, hb]) (by omega) (by simp [World.frozen?, hv]) (by simp [World.frozen?, hv])]
    rfl
  have mixed := mixed
  have hb1 : (0 : Int) ≤ (i : Int) + 1 := by omega
  have hb2 : ¬ (c = i + 1) := by omega
  have hb3 : (i : Int) ≤ (n : Int) + 1 := by omega
  have hb4 : ¬ (c = i) := by omega
  have hin : i ≤ n := by omega
  have hcurl : cur.toList.length = c * 12 := by rw [Array.length_toList]; exact hsz
  have hnc12 : (n + 1) * 12 ≤ c * 12 := Nat.mul_le_mul_right _ hroom
  have hin12 : (i + 1) * 12 ≤ n * 12 := Nat.mul_le_mul_right _ hi
  have hdl : (cs.drop (i * 12)).length = (n - i) * 12 := by rw [List.length_drop, hcl, Nat.sub_mul]
  have hcell : ∀ j v, cs[j]? = some v → w.cell? ⟨b, j, none⟩ = some v := fun j v hj => by
    rw [← hcs, List.getElem?_take] at hj
    split at hj
    · simp [World.cell?, hb]; simpa using hj
    · cases hj
  obtain ⟨C1, hC1⟩ : ∃ C1 : Array Value, C1 = (cur.toList.take ((i + 1) * 12) ++ cs.drop (i * 12) ++ cur.toList.drop ((i + 1) * 12 + (cs.drop (i * 12)).length)).toArray := ⟨_, rfl⟩
  have hC1s : C1.size = c * 12 := by
    rw [hC1]; simp only [List.size_toArray, List.length_append, List.length_take, List.length_drop, hcurl, hcl]; omega
  obtain ⟨C2, hC2⟩ : ∃ C2 : Array Value, C2 = (C1.toList.take (i * 12) ++ vs ++ C1.toList.drop (i * 12 + vs.length)).toArray := ⟨_, rfl⟩
  have hcp1 : ∀ ty dc sc, (Builtin.copy_ #[25, 25] ty #[.slice (some ⟨b, (i + 1) * 12, none⟩) (n - i) dc, .slice (some ⟨b, i * 12, none⟩) (n + 1 - i) sc]).run Tryz.prog w.drew = .ok (goInt (n - i : Nat)) (w.drew.setRow b C1) := fun ty dc sc => by
    rw [hC1]
    exact run_copy_wide w.drew _ _ ty 63 12 b ((i + 1) * 12) (n - i) dc ⟨b, i * 12, none⟩ (n + 1 - i) sc (n - i) cur _ (cs.drop (i * 12)) Tryz.underlying25 frameSize (by simp only [Nat.min_def]; split <;> omega) hb hdl
      (fun j v hj => by rw [Addr.add_lit]; exact hcell (i * 12 + j) v (by rwa [List.getElem?_drop] at hj))
      (by rw [hdl, hsz]; omega) (fun v hv => h1c v (List.mem_of_mem_drop hv))
  have hcp2 : ∀ (W : World), W.heap = (w.drew.setRow b C1).heap → ∀ ty dc, (Builtin.copy_ #[25, 24] ty #[.slice (some ⟨b, i * 12, none⟩) (n + 1 - i) dc, .slice (some ⟨vb, 0, none⟩) 1 vc]).run Tryz.prog W = .ok (goInt (1 : Nat)) (W.setRow b C2) := fun W hW ty dc => by
    have hWb : W.heap[b]? = some (.cells C1 63 (0, 0)) := by rw [hW]; exact setRow_heap w.drew b _ _ _ _ hb
    have hWv : W.heap[vb]? = some (.cells curV tv (0, 0)) := by
      rw [hW, show (w.drew.setRow b C1).heap[vb]? = w.heap[vb]? from setRow_other w.drew _ vb _ hvb]; exact hv
    rw [hC2]
    exact run_copy_wide W _ _ ty 63 12 b (i * 12) (n + 1 - i) dc ⟨vb, 0, none⟩ 1 vc 1 C1 _ vs Tryz.underlying25 frameSize (by simp only [Nat.min_def]; split <;> omega) hWb (by omega)
      (fun j v hj => by
        rw [Addr.add_lit, Nat.zero_add]
        rw [← hvs, List.getElem?_take] at hj
        split at hj
        · simp [World.cell?, hWv]; simpa using hj
        · cases hj)
      (by rw [hC1s, hvl]; omega) h1v
  go_enter Tryz.func55, Tryz.ntmps55
  go_wp2_with fail
  go_region_law_o (refine step_copy_runI rfl _ _ 25 25 rfl _ _ (by simp [Act.eval, Act.put]) (by simp [Act.eval, Act.put]) (hcp1 _ _ _) ?_)
  go_wp2_with (at_builtin; refine wpList_copy_runI _ rfl _ _ 25 24 rfl _ _ rfl rfl (hcp2 _ rfl _ _) ?_)
  go_ret
  have hAl : (cur.toList.take ((i + 1) * 12)).length = (i + 1) * 12 := by rw [List.length_take, hcurl]; omega
  have e1 : C1.toList = cur.toList.take ((i + 1) * 12) ++ (cs.drop (i * 12) ++ cur.toList.drop ((i + 1) * 12 + (n - i) * 12)) := by rw [hC1, hdl, ← List.append_assoc]
  have e2 : C2.toList = C1.toList.take (i * 12) ++ vs ++ C1.toList.drop (i * 12 + 12) := by rw [hC2, hvl]
  have e3 : C1.toList.take (i * 12) = cs.take (i * 12) := by
    rw [e1, List.take_append_of_le_length (by rw [hAl]; omega), List.take_take, ← hcs, List.take_take]
    congr 1; omega
  have e4 : C1.toList.drop (i * 12 + 12) = cs.drop (i * 12) ++ cur.toList.drop ((i + 1) * 12 + (n - i) * 12) := by
    rw [e1, show i * 12 + 12 = (cur.toList.take ((i + 1) * 12)).length by rw [hAl]; omega, List.drop_left]
  have hC2s : C2.size = c * 12 := by
    rw [← Array.length_toList, e2]; simp only [List.length_append, List.length_take, List.length_drop, Array.length_toList, hC1s, hvl]; omega
  refine ⟨rfl, C2, 1, ?_, hC2s, ?_⟩
  · rw [setRow_setRow]
    show _ = w.drew.setRow b C2
    congr 1
    apply Array.ext'
    rw [e2, e1]
    simp
  · rw [e2, e3, e4, ← List.append_assoc]
    apply List.take_left'
    simp only [List.length_append, List.length_take, hvl, hdl, hcl]
    omega
end Go.Proofs.YtaekjojblkhfdaaGreat
namespace Go.Proofs.YtaekjojblkhfdaaGreat
open Go Go.Sx
open Go.Proofs Go.Shelf Go.RowKit Go.Lib
set_option maxHeartbeats 4000000 in
set_option maxRecDepth 100000 in
theorem insGrowWalk (b n c i vb vc G N : Nat) (w W1 W2 W3 : World) (hi : i < n) (hnc : n ≤ c) (hroom : c < n + 1) (hGn : n + 1 ≤ G) (hG63 : G ≤ 9223372036854775807) (hn9 : n ≤ 1000000)
    (hrz : ∀ ty, (Builtin.append_ #[25, 3] ty #[.slice (some ⟨b, 0, none⟩) i c, .int .i64 ((n : Int) + 1 - (i : Int))]).run Tryz.prog w = .ok (.slice (some ⟨N, 0, none⟩) (n + 1) G) W1)
    (hcpA : ∀ ty dc, (Builtin.copy_ #[25, 24] ty #[.slice (some ⟨N, i * 12, none⟩) (n + 1 - i) dc, .slice (some ⟨vb, 0, none⟩) 1 vc]).run Tryz.prog W1 = .ok (goInt (1 : Nat)) W2)
    (hcpB : ∀ ty dc sc, (Builtin.copy_ #[25, 25] ty #[.slice (some ⟨N, (i + 1) * 12, none⟩) (n - i) dc, .slice (some ⟨b, i * 12, none⟩) (n - i) sc]).run Tryz.prog W2.drew = .ok (goInt (n - i : Nat)) W3) :
    Calls Tryz.prog 55 #[.slice (some ⟨b, 0, none⟩) n c, .int .i64 i, .slice (some ⟨vb, 0, none⟩) 1 vc] w fun e w' => e = .returned (.slice (some ⟨N, 0, none⟩) (n + 1) G) ∧ w' = W3 := by
  have mixed := mixed
  have hz1 : ¬ ((i : Int) = (n : Int)) := by omega
  have hz3 : (c : Int) < (n : Int) + 1 := by omega
  have hw1 : IntKind.i64.wrap ((n : Int) + 1) = (n : Int) + 1 := by rw [IntKind.wrap_i64]; omega
  have hw2 : IntKind.i64.wrap ((i : Int) + 1) = (i : Int) + 1 := by rw [IntKind.wrap_i64]; omega
  have hw3 : IntKind.i64.wrap ((n : Int) + 1 - (i : Int)) = (n : Int) + 1 - (i : Int) := by rw [IntKind.wrap_i64]; omega
  have hb1 : (0 : Int) ≤ (i : Int) + 1 := by omega
  have hb3 : (i : Int) ≤ (n : Int) + 1 := by omega
  have hb5 : (i : Int) ≤ (n : Int) := by omega
  have hin : i ≤ n := by omega
  have hic : i ≤ c := by omega
  have hGi : ¬ (G = i) := by omega
  have hGim : ¬ (G = i + 1) := by omega
  have hci : ¬ (c = i) := by omega
  clear hroom hnc
  go_enter Tryz.func55, Tryz.ntmps55
  go_wp2_with (at_builtin; refine Lib.wpList_append_run _ rfl _ _ _ _ rfl _ _ rfl rfl _ _ (hrz _) ?_)
  go_region_law_o (refine step_copy_runI rfl _ _ 25 25 rfl _ _ (by simp [Act.eval, Act.put]) (by simp [Act.eval, Act.put]) (hcpB _ _ _) ?_)
  go_wp2
  go_ret
  exact ⟨rfl, rfl⟩
theorem frameInfo : (Tryz.prog.info? 63).map (fun i => (i.zero.map (·.cells.size), i.size, i.bytes)) = some (some 12, 12, 24) := by kernel_rfl
/-- slices.Insert of one page ahead of a page, where there is no room: a new row. -/
theorem insGrow (b n c i vb vc : Nat) (cur : Array Value) (cs vs : List Value) (tv : TypeId) (curV : Array Value) (w : World) (hi : i < n) (hnc : n ≤ c) (hroom : c < n + 1) (hvb : vb ≠ b) (hn9 : n ≤ 1000000)
    (hb : w.heap[b]? = some (.cells cur 63 (0, 0))) (hv : w.heap[vb]? = some (.cells curV tv (0, 0))) (hsz : cur.size = c * 12)
    (hcl : cs.length = n * 12) (hvl : vs.length = 12) (hcs : cur.toList.take (n * 12) = cs) (hvs : curV.toList.take 12 = vs) (h1c : ∀ v ∈ cs, v.oneCell' = true) (h1v : ∀ v ∈ vs, v.oneCell' = true) :
    Calls Tryz.prog 55 #[.slice (some ⟨b, 0, none⟩) n c, .int .i64 i, .slice (some ⟨vb, 0, none⟩) 1 vc] w fun e w' =>
      ∃ v, e = .returned v ∧ w'.ownsRow w.heap.size 63 12 v (n + 1) (cs.take (i * 12) ++ vs ++ cs.drop (i * 12)) ∧ Below w.heap.size w w' := by
  have mixed := mixed
  have hz1 : ¬ ((i : Int) = (n : Int)) := by omega
  have hz3 : (c : Int) < (n : Int) + 1 := by omega
  have hw1 : IntKind.i64.wrap ((n : Int) + 1) = (n : Int) + 1 := by rw [IntKind.wrap_i64]; omega
  have hw2 : IntKind.i64.wrap ((i : Int) + 1) = (i : Int) + 1 := by rw [IntKind.wrap_i64]; omega
  have hb1 : (0 : Int) ≤ (i : Int) + 1 := by omega
  have hb3 : (i : Int) ≤ (n : Int) + 1 := by omega
  have hin : i ≤ n := by omega
  have hi12 : i * 12 ≤ n * 12 := Nat.mul_le_mul_right _ hin
  have hin12 : (i + 1) * 12 ≤ n * 12 := Nat.mul_le_mul_right _ hi
  have hcurl : cur.toList.length = c * 12 := by rw [Array.length_toList]; exact hsz
  have hcn : c = n := by omega
  obtain ⟨i0, hi0, hz0⟩ := Option.map_eq_some_iff.1 frameInfo
  simp only [Prod.mk.injEq] at hz0
  obtain ⟨hzz, hzs, hzb⟩ := hz0
  obtain ⟨z, hz, hzc⟩ := Option.map_eq_some_iff.1 hzz
  have hbw : b < w.heap.size := (Array.getElem?_eq_some_iff.1 hb).1
  have hvw : vb < w.heap.size := (Array.getElem?_eq_some_iff.1 hv).1
  have hcell : ∀ j v, cs[j]? = some v → w.cell? ⟨b, j, none⟩ = some v := fun j v hj => by
    rw [← hcs, List.getElem?_take] at hj
    split at hj
    · simp [World.cell?, hb]; simpa using hj
    · cases hj
  have hold : (Builtin.firstCells i0.size i (.slice (some ⟨b, 0, none⟩) i c)).run Tryz.prog w.drew = .ok (cs.take (i * 12)).toArray w.drew := by
    rw [hzs]
    exact run_firstCells_some w.drew 12 i ⟨b, 0, none⟩ i c (cs.take (i * 12)) (by rw [List.length_take]; omega) (fun j v hj => by
      rw [Addr.add_lit, Nat.zero_add]
      rw [List.getElem?_take] at hj
      split at hj
      · exact hcell j v hj
      · cases hj)
  obtain ⟨G, hG⟩ : ∃ G, G = grownCap w (n + 1) c 63 := ⟨_, rfl⟩
  obtain ⟨ROW, hROW⟩ : ∃ ROW : Array Value, ROW = (cs.take (i * 12)).toArray ++ Builtin.zeroCells z.cells (n + 1 - i) ++ Builtin.zeroCells z.cells (G - (n + 1)) := ⟨_, rfl⟩
  have hGn : n + 1 ≤ G := by rw [hG]; exact grownCap_ge w _ _ _
  have hGm : G ≤ maxLen := by rw [hG]; exact grownCap_le_maxLen w (n + 1) c _ (by unfold maxLen; omega)
  have hG63 : G ≤ 9223372036854775807 := by have := hGm; unfold maxLen at this; omega
  have hrz : ∀ ty, (Builtin.append_ #[25, 3] ty #[.slice (some ⟨b, 0, none⟩) i c, .int .i64 ((n : Int) + 1 - (i : Int))]).run Tryz.prog w = .ok (.slice (some ⟨w.heap.size, 0, none⟩) (n + 1) G) (w.drew.alloc (.cells ROW 63)) := fun ty => by
    have h := Lib.run_append_grow_zeros w 25 3 ty 63 i0 z .i64 .i64 Tryz.underlying25 Tryz.underlying3 hi0 hz (some ⟨b, 0, none⟩) i c (cs.take (i * 12)) hold (n + 1 - i) (by omega) (by omega) (by omega) (by omega) (by rw [hzb]; omega) (by rw [hzb, show i + (n + 1 - i) = n + 1 by omega]; exact growslice_fits hroom (by omega))
    rw [show i + (n + 1 - i) = n + 1 by omega, ← hG, ← hROW, show ((n + 1 - i : Nat) : Int) = (n : Int) + 1 - (i : Int) by omega] at h
    exact h
  have hRs : ROW.size = G * 12 := by
    rw [hROW]
    simp only [Array.size_append, List.size_toArray, List.length_take, hcl, Builtin.zeroCells]
    simp [hzc]
    omega
  obtain ⟨W1, hW1⟩ : ∃ W1, W1 = w.drew.alloc (.cells ROW 63) := ⟨_, rfl⟩
  have hW1N : W1.heap[w.heap.size]? = some (.cells ROW 63 (0, 0)) := by rw [hW1]; simp [World.alloc, World.drew, -World.alloc_eq, -World.drew_eq]
  have hW1o : ∀ k, k < w.heap.size → W1.heap[k]? = w.heap[k]? := fun k hk => by rw [hW1]; simp [World.alloc, World.drew, -World.alloc_eq, -World.drew_eq]; rw [Array.getElem?_push, if_neg (Nat.ne_of_lt hk)]
  have hdl : (cs.drop (i * 12)).length = (n - i) * 12 := by rw [List.length_drop, hcl, Nat.sub_mul]
  have hRl : ROW.toList.length = G * 12 := by rw [Array.length_toList]; exact hRs
  have hG12 : (n + 1) * 12 ≤ G * 12 := Nat.mul_le_mul_right _ hGn
  obtain ⟨A1, hA1⟩ : ∃ A1 : Array Value, A1 = (ROW.toList.take (i * 12) ++ vs ++ ROW.toList.drop (i * 12 + vs.length)).toArray := ⟨_, rfl⟩
  have hA1s : A1.size = G * 12 := by
    rw [hA1]; simp only [List.size_toArray, List.length_append, List.length_take, List.length_drop, hRl, hvl]; omega
  obtain ⟨A2, hA2⟩ : ∃ A2 : Array Value, A2 = (A1.toList.take ((i + 1) * 12) ++ cs.drop (i * 12) ++ A1.toList.drop ((i + 1) * 12 + (cs.drop (i * 12)).length)).toArray := ⟨_, rfl⟩
  have hcpA : ∀ (W : World), W.heap = W1.heap → ∀ ty dc, (Builtin.copy_ #[25, 24] ty #[.slice (some ⟨w.heap.size, i * 12, none⟩) (n + 1 - i) dc, .slice (some ⟨vb, 0, none⟩) 1 vc]).run Tryz.prog W = .ok (goInt (1 : Nat)) (W.setRow w.heap.size A1) := fun W hW ty dc => by
    have hWv : W.heap[vb]? = some (.cells curV tv (0, 0)) := by rw [hW, hW1o vb hvw]; exact hv
    rw [hA1]
    exact run_copy_wide W _ _ ty 63 12 w.heap.size (i * 12) (n + 1 - i) dc ⟨vb, 0, none⟩ 1 vc 1 ROW _ vs Tryz.underlying25 frameSize (by simp only [Nat.min_def]; split <;> omega) (by rw [hW]; exact hW1N) (by omega)
      (fun j v hj => by
        rw [Addr.add_lit, Nat.zero_add]
        rw [← hvs, List.getElem?_take] at hj
        split at hj
        · simp [World.cell?, hWv]; simpa using hj
        · cases hj)
      (by rw [hRs, hvl]; omega) h1v
  have hcpB : ∀ (W : World), W.heap = (W1.setRow w.heap.size A1).heap → ∀ ty dc sc, (Builtin.copy_ #[25, 25] ty #[.slice (some ⟨w.heap.size, (i + 1) * 12, none⟩) (n - i) dc, .slice (some ⟨b, i * 12, none⟩) (n - i) sc]).run Tryz.prog W = .ok (goInt (n - i : Nat)) (W.setRow w.heap.size A2) := fun W hW ty dc sc => by
    have hWN : W.heap[w.heap.size]? = some (.cells A1 63 (0, 0)) := by rw [hW]; exact setRow_heap W1 w.heap.size _ _ _ _ hW1N
    have hWb : W.heap[b]? = some (.cells cur 63 (0, 0)) := by
      rw [hW, setRow_other W1 _ b _ (by omega), hW1o b hbw]; exact hb
    rw [hA2]
    exact run_copy_wide W _ _ ty 63 12 w.heap.size ((i + 1) * 12) (n - i) dc ⟨b, i * 12, none⟩ (n - i) sc (n - i) A1 _ (cs.drop (i * 12)) Tryz.underlying25 frameSize (by simp) hWN hdl
      (fun j v hj => by
        rw [Addr.add_lit]
        rw [List.getElem?_drop, ← hcs, List.getElem?_take] at hj
        split at hj
        · simp [World.cell?, hWb]; simpa using hj
        · cases hj)
      (by rw [hdl, hA1s]; omega) (fun v hv => h1c v (List.mem_of_mem_drop hv))
  refine (insGrowWalk b n c i vb vc G w.heap.size w W1 (W1.setRow w.heap.size A1) ((W1.setRow w.heap.size A1).drew.setRow w.heap.size A2) hi hnc hroom hGn hG63 hn9 (by rw [hW1]; exact hrz) (hcpA _ rfl) (hcpB _ rfl)).mono ?_
  rintro e w' ⟨rfl, rfl⟩
  have hAl : (A1.toList.take ((i + 1) * 12)).length = (i + 1) * 12 := by rw [List.length_take, Array.length_toList, hA1s]; omega
  have e1 : A1.toList = ROW.toList.take (i * 12) ++ vs ++ ROW.toList.drop (i * 12 + 12) := by rw [hA1, hvl]
  have e2 : A2.toList = A1.toList.take ((i + 1) * 12) ++ cs.drop (i * 12) ++ A1.toList.drop ((i + 1) * 12 + (n - i) * 12) := by rw [hA2, hdl]
  have hRt : ROW.toList.take (i * 12) = cs.take (i * 12) := by
    rw [hROW]
    simp only [Array.toList_append, List.append_assoc]
    rw [List.take_append_of_le_length (by rw [List.length_take, hcl]; omega), List.take_take]
    congr 1; omega
  have e3 : A1.toList.take ((i + 1) * 12) = cs.take (i * 12) ++ vs := by
    rw [e1, hRt]
    apply List.take_left'
    simp only [List.length_append, List.length_take, hvl, hcl]; omega
  have hA2s : A2.size = G * 12 := by
    rw [← Array.length_toList, e2]; simp only [List.length_append, List.length_take, List.length_drop, Array.length_toList, hA1s, hcl]; omega
  have hN : ((W1.setRow w.heap.size A1).drew.setRow w.heap.size A2).heap[w.heap.size]? = some (.cells A2 63 (0, 0)) := setRow_heap _ _ _ _ _ _ (setRow_heap W1 w.heap.size _ _ _ _ hW1N)
  refine ⟨_, rfl, ⟨by simp only [List.length_append, List.length_take, List.length_drop, hvl, hcl]; omega, .inr ⟨w.heap.size, G, A2, rfl, Nat.le_refl _, hN, hGn, hGm, hA2s, ?_⟩⟩, ?_⟩
  · rw [e2, e3]
    apply List.take_left'
    simp only [List.length_append, List.length_take, List.length_drop, hvl, hcl]; omega
  · refine ⟨?_, ?_, ?_, ?_, fun k hk => ?_⟩
    · rw [hW1]; rfl
    · rw [hW1]; rfl
    · rw [hW1]; rfl
    · rw [hW1]; simp [World.setRow, World.alloc, World.drew, -World.alloc_eq, -World.drew_eq]
    · rw [setRow_other _ _ k _ (by omega)]
      show (W1.setRow w.heap.size A1).heap[k]? = _
      rw [setRow_other _ _ k _ (by omega), hW1o k hk]
end Go.Proofs.YtaekjojblkhfdaaGreat
namespace Go.Proofs.YtaekjojblkhfdaaGreat
open Go Go.Sx
open Go.Proofs
/-- A page put in ahead of page i. -/
def insL (l : List (Nat → Int)) (i : Nat) (f : Nat → Int) : List (Nat → Int) := l.take i ++ f :: l.drop i
theorem insL_len {l : List (Nat → Int)} {i : Nat} (f : Nat → Int) (h : i ≤ l.length) : (insL l i f).length = l.length + 1 := by unfold insL; simp; omega
theorem flat_take12 (l : List (Nat → Int)) (i : Nat) : (l.flatMap (rowL .u16 12)).take (i * 12) = (l.take i).flatMap (rowL .u16 12) := by
  induction l generalizing i with
  | nil => simp
  | cons a l ih =>
    cases i with
    | zero => simp
    | succ i =>
      rw [List.flatMap_cons, List.take_succ_cons, List.flatMap_cons, ← ih i, List.take_append, rowL_length, List.take_of_length_le (by rw [rowL_length]; omega)]
      congr 2; omega
theorem flat_drop12 (l : List (Nat → Int)) (i : Nat) : (l.flatMap (rowL .u16 12)).drop (i * 12) = (l.drop i).flatMap (rowL .u16 12) := by
  induction l generalizing i with
  | nil => simp
  | cons a l ih =>
    cases i with
    | zero => simp
    | succ i =>
      rw [List.flatMap_cons, List.drop_succ_cons, ← ih i, List.drop_append, rowL_length, List.drop_eq_nil_of_le (by rw [rowL_length]; omega), List.nil_append]
      congr 1; omega
theorem insL_cells (l : List (Nat → Int)) (i : Nat) (f : Nat → Int) : (insL l i f).flatMap (rowL .u16 12) = (l.flatMap (rowL .u16 12)).take (i * 12) ++ rowL .u16 12 f ++ (l.flatMap (rowL .u16 12)).drop (i * 12) := by
  rw [flat_take12, flat_drop12]
  unfold insL
  rw [List.flatMap_append, List.flatMap_cons, List.append_assoc]
theorem concs_rows (σ : Nat → Go.Sx.Loc) (l : List (Nat → Int)) : ∀ v ∈ concs σ (l.flatMap (rowL .u16 12)), v.oneCell' = true := by
  intro v hv
  rw [concs_eq] at hv
  obtain ⟨x, hx, rfl⟩ := List.mem_map.1 hv
  obtain ⟨y, rfl, hy⟩ := (flat_rowL .u16 12).mem hx
  exact hy
theorem insC {H : List Blk} {bi vi i n : Nat} {l : List (Nat → Int)} {f : Nat → Int} {tv : TypeId} {c c2 : Cap} (hb : H[bi]? = some ⟨l.flatMap (rowL .u16 12), 63, .own 12⟩) (hv : H[vi]? = some ⟨rowL .u16 12 f, tv, .own 12⟩) (hne : vi ≠ bi) (hn : n = l.length) (hi : i < l.length) (hl : l.length ≤ 1000000) (hc : c = .u 0 ∨ c = .w) (hc2 : c2 = .u 0 ∨ c2 = .w) :
    Cal Tryz.prog 55 [.s bi 0 n c, .v (.int .i64 i), .s vi 0 1 c2] H fun u H' => u = .s H.length 0 (insL l i f).length (.u 0) ∧ H' = H.set bi deadB ++ [⟨(insL l i f).flatMap (rowL .u16 12), 63, .own 12⟩] := by
  subst hn
  rw [insL_len f (by omega)]
  refine cal_moved (by kernel_rfl) hb rfl (by rw [(flat_rowL .u16 12).flen, insL_len f (by omega)]) (fun c hc => ?_) fun σ w hw hlt => ?_
  · obtain ⟨y, rfl, hy⟩ := (flat_rowL .u16 12).mem hc
    exact ⟨hy, hy⟩
  obtain ⟨h0, cur, m, hg, hm, hcap, hsz, hmax, htake⟩ := (hw.holds bi _ hb : _ ∧ _)
  obtain ⟨v0, curV, mv, hgv, hmv, hcapv, hszv, hmaxv, htakev⟩ := (hw.holds vi _ hv : _ ∧ _)
  rw [(flat_rowL .u16 12).flen] at hm
  have hml : m = l.length := by omega
  subst hml
  rw [rowL_length] at hmv
  have hmv1 : mv = 1 := by omega
  subst hmv1
  have hsep := hw.sep vi bi _ _ hne hv hb rfl rfl
  have ev : c.val (σ bi).cap = (σ bi).cap := by rcases hc with rfl | rfl <;> rfl
  have ev2 : c2.val (σ vi).cap = (σ vi).cap := by rcases hc2 with rfl | rfl <;> rfl
  have ec : (concs σ [V.s bi 0 l.length c, .v (.int .i64 i), V.s vi 0 1 c2]).toArray = #[.slice (some ⟨(σ bi).blk, 0, none⟩) l.length (σ bi).cap, .int .i64 i, .slice (some ⟨(σ vi).blk, 0, none⟩) 1 (σ vi).cap] := by simp [concs, conc, h0, v0, ev, ev2]
  rw [ec]
  have hcl : (concs σ (l.flatMap (rowL .u16 12))).length = l.length * 12 := by rw [concs_length, (flat_rowL .u16 12).flen]
  have hvl : (concs σ (rowL .u16 12 f)).length = 12 := by rw [concs_length, rowL_length]
  have h1v : ∀ v ∈ concs σ (rowL .u16 12 f), v.oneCell' = true := by have := concs_rows σ [f]; simpa using this
  have hcells : concs σ ((insL l i f).flatMap (rowL .u16 12)) = (concs σ (l.flatMap (rowL .u16 12))).take (i * 12) ++ concs σ (rowL .u16 12 f) ++ (concs σ (l.flatMap (rowL .u16 12))).drop (i * 12) := by
    rw [insL_cells, concs_append, concs_append]
    simp only [concs_eq, List.map_take, List.map_drop]
  have hbw : (σ bi).blk < w.heap.size := (Array.getElem?_eq_some_iff.1 hg).1
  by_cases hroom : l.length + 1 ≤ (σ bi).cap
  · refine (insShift (σ bi).blk l.length (σ bi).cap i (σ vi).blk (σ vi).cap cur _ _ tv curV w hi hroom (by have := hmax; unfold maxLen at this; omega) hsep hl hg hgv hsz hcl hvl htake (by simpa using htakev) (concs_rows σ l) h1v).mono ?_
    rintro e w' ⟨rfl, cur', q, rfl, hs', ht'⟩
    refine ⟨_, _, cur', rfl, setRow_heap (w.drewN q) _ _ _ _ _ hg, hroom, hmax, hs', by rw [ht', hcells], .inl rfl, rfl, rfl, rfl, by simp [World.setRow, World.drewN], fun k hk hkn => ?_⟩
    rw [setRow_other _ _ k _ hkn]; rfl
  · refine (insGrow (σ bi).blk l.length (σ bi).cap i (σ vi).blk (σ vi).cap cur _ _ tv curV w hi hcap (by omega) hsep hl hg hgv hsz hcl hvl htake (by simpa using htakev) (concs_rows σ l) h1v).mono ?_
    rintro e w' ⟨v, rfl, ⟨_, ⟨_, hbad⟩ | ⟨g, cap, cur', rfl, hge, hgc, g1, g2, g3, g4⟩⟩, hbel⟩
    · omega
    · exact ⟨g, cap, cur', rfl, hgc, g1, g2, g3, by rw [g4, hcells], .inr hge, hbel.os, hbel.tape, hbel.output, hbel.size, fun k hk _ => hbel.block k hk⟩
end Go.Proofs.YtaekjojblkhfdaaGreat
