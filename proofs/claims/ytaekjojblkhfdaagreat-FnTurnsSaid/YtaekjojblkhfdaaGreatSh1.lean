/- Contracts of functions of the translated program, by the walk. -/
import Derived.Test.YtaekjojblkhfdaaGreatD2
import Derived.Test.YtaekjojblkhfdaaGreatB2
import Derived.Test.YtaekjojblkhfdaaGreatLD
import Derived.Test.YtaekjojblkhfdaaGreatC2
import Derived.RangeFuncBox
import Derived.RangeFuncLeaves
import Derived.RangeFuncWrites
import Derived.RangeFuncKeeps
import Derived.Shelf.Abstract
import Derived.WalkKit
import Derived.OwnWalkIn
import Derived.TacticsInMore
import Derived.LoopNIn
import Derived.LoopIn
import Derived.Maps.AppendAt
import Derived.Shelf.SortM.Plain
import Derived.Shelf.SortM.SortNone
import Derived.Test.YtaekjojblkhfdaaGreatProg
import Derived.KernelRfl
set_option linter.unusedVariables false
set_option linter.unusedSimpArgs false
set_option maxRecDepth 8000
set_option maxHeartbeats 16000000
namespace Go.Proofs.YtaekjojblkhfdaaGreat
open Go Go.Sx
def hasI (o : List Int) (k : Int) : Bool := o.any fun y => decide (y = k)
theorem hasI_iff {o : List Int} {k : Int} : hasI o k = true ↔ k ∈ o := by
  unfold hasI; simp only [List.any_eq_true, decide_eq_true_eq]
  constructor
  · rintro ⟨y, h, rfl⟩; exact h
  · intro h; exact ⟨k, h, rfl⟩
theorem l00Has {H : List Blk} {v : V} {l : List Int} {x : Int} (h : Rd H v i64C l) (hl : l.length ≤ 1000000) :
    Cal Tryz.prog 87 [v, .v (.int .i64 x)] H fun u H' => u = .v (.bool (hasI l x)) ∧ H' = H := by
  have hsol := h.solid
  have hL := h.lenV (P := Tryz.prog) slTy27
  refine cal_fn 16 mixed Tryz.func87 Tryz.ntmps87 Tryz.results87 rfl rfl rfl fun hw cx hx hq => ?_
  repeat (first | (simp only [go_sem, Int.reduceLT, Int.reduceLE, Int.reduceEq, Int.reduceToNat, hsol]) | ((with_reducible refine And.intro ?_ ?_); omega) | ((with_reducible refine And.intro ?_ ?_); first | (with_reducible rfl) | assumption | (simp only [go_sem]; done)))
  refine WK_for (fun n : Nat => ⟨[v, .v (.int .i64 x), .any, .any, .any, .v (.int .i64 n)] ++ junk 12, H⟩) (fun n => n ≤ l.length ∧ ∀ j (hj : j < l.length), j < n → l[j] ≠ x) (fun n => l.length - n) 0 (Weak.slots ?_) ?_ fun n hn => ?_
  · simp [go_sem]
  · simp
  rcases Int.lt_or_le (n : Int) l.length with hc | hc
  · have hj : n < l.length := by omega
    obtain ⟨i, off, c, b, rfl, hat⟩ := h.row (by omega)
    have hll := hat.len (by rw [flat_i64.flen]; omega)
    rw [flat_i64.flen] at hll
    have hz := hat.i64 hj
    by_cases e : l[n] = x
    · have e1 : (l[n] = x) = True := eq_true e
      have e2 : hasI l x = true := hasI_iff.2 (e ▸ List.getElem_mem hj)
      repeat (first | (simp only [go_sem, Int.reduceLT, Int.reduceLE, Int.reduceEq, Int.reduceToNat, hL, hc, hat.get, hat.live, hz, e1]) | ((with_reducible refine And.intro ?_ ?_); omega) | ((with_reducible refine And.intro ?_ ?_); first | (with_reducible rfl) | assumption | (simp only [go_sem]; done)))
      refine ret_same hq _ (.inl rfl) ?_
      simp [go_sem, e2]
    · have e1 : (l[n] = x) = False := eq_false e
      repeat (first | (simp only [go_sem, Int.reduceLT, Int.reduceLE, Int.reduceEq, Int.reduceToNat, hL, hc, hat.get, hat.live, hz, e1]) | ((with_reducible refine And.intro ?_ ?_); omega) | ((with_reducible refine And.intro ?_ ?_); first | (with_reducible rfl) | assumption | (simp only [go_sem]; done)))
      refine EK_again (n + 1) (Weak.slots (by simp [go_sem])) ⟨by omega, fun j hj2 hj3 => ?_⟩ (by omega)
      by_cases e2 : j = n
      · subst e2; exact e
      · exact hn.2 j hj2 (by omega)
  · have e2 : hasI l x = false := by
      rw [Bool.eq_false_iff]; intro h2
      obtain ⟨j, hj, e⟩ := List.mem_iff_getElem.1 (hasI_iff.1 h2)
      exact hn.2 j hj (by omega) e
    repeat (first | (simp only [go_sem, Int.reduceLT, Int.reduceLE, Int.reduceEq, Int.reduceToNat, hL, Int.not_lt.2 hc]) | ((with_reducible refine And.intro ?_ ?_); omega) | ((with_reducible refine And.intro ?_ ?_); first | (with_reducible rfl) | assumption | (simp only [go_sem]; done)))
    refine ret_same hq _ (.inl rfl) ?_
    simp [go_sem, e2]
/-- The pages in an order. -/
def inO (l : List (Nat → Int)) (o : List Int) : List (Nat → Int) := o.map fun k => pg l k.toNat
theorem inO_len (l : List (Nat → Int)) (o : List Int) : (inO l o).length = o.length := by simp [inO]
theorem inO_12 {l : List (Nat → Int)} (h : ∀ f ∈ l, F12 f) (o : List Int) : ∀ f ∈ inO l o, F12 f := fun f hf => by
  unfold inO at hf
  obtain ⟨k, _, rfl⟩ := List.mem_map.1 hf
  exact pg_12 h _
theorem inO_succ {l : List (Nat → Int)} {o : List Int} {n : Nat} (h : n < o.length) : inO l (o.take (n + 1)) = inO l (o.take n) ++ [pg l (o[n]).toNat] := by
  unfold inO; rw [List.take_succ_eq_append_getElem h, List.map_append]; rfl
/-- All numbers of an order are pages. -/
def okI (l : List (Nat → Int)) (o : List Int) : Prop := ∀ k ∈ o, 0 ≤ k ∧ k < l.length
theorem inOrder {H : List Blk} {v w : V} {l : List (Nat → Int)} {o : List Int} (h : Rd H v (rowL .u16 12) l) (h2 : Rd H w i64C o) (ho : okI l o) (hl : o.length ≤ 1000000) :
    Cal Tryz.prog 41 [v, w] H fun u H' => u = .s H.length 0 (inO l o).length (.u 0) ∧ H' = H ++ [⟨(inO l o).flatMap (rowL .u16 12), 63, .own 12⟩] := by
  have hsol := h.solid
  have hsol2 := h2.solid
  have hL2 := h2.lenV (P := Tryz.prog) slTy27
  refine cal_fn 22 mixed Tryz.func41 Tryz.ntmps41 Tryz.results41 rfl rfl rfl fun hw cx hx hq => ?_
  repeat (first | (simp only [go_sem, Int.reduceLT, Int.reduceLE, Int.reduceEq, Int.reduceToNat, hsol, hsol2, hL2]) | ((with_reducible refine And.intro ?_ ?_); omega) | ((with_reducible refine And.intro ?_ ?_); first | (with_reducible rfl) | assumption | (simp only [go_sem]; done)))
  refine WK_for (fun n : Nat => ⟨[v, .any, .any, .any, .any, .s H.length 0 (inO l (o.take n)).length (.u 0), .any, .any, .any, w, .v (.int .i64 o.length), .v (.int .i64 n)] ++ junk 12, H ++ [⟨(inO l (o.take n)).flatMap (rowL .u16 12), 63, .own 12⟩]⟩) (fun n => n ≤ o.length) (fun n => o.length - n) 0 (Weak.slots ?_) ?_ fun n hn => ?_
  · simp [go_sem, inO]
  · simp
  rcases Int.lt_or_le (n : Int) o.length with hc | hc
  · have hj : n < o.length := by omega
    have hk := ho _ (List.getElem_mem hj)
    obtain ⟨i, off, c, b, rfl, hat⟩ := h.row (by omega)
    obtain ⟨i2, off2, c2, b2, rfl, hat2⟩ := h2.row (by omega)
    have hil := hat.lt
    have hil2 := hat2.lt
    have hll := hat2.len (by rw [flat_i64.flen]; omega)
    rw [flat_i64.flen] at hll
    have hz := hat2.i64 hj
    have e3 := inO_succ (l := l) hj
    generalize o[n] = x at hk hz e3
    have a0 := hat.elem (rowL .u16 12) 12 hz12 (show x.toNat < l.length by omega)
    have f0 := hat.fits (rowL .u16 12) 12 hz12 (show x.toNat < l.length by omega) (by omega)
    rw [← pg_at] at a0
    have hn1 : norefH H.length H := norefH_wf hw (Nat.le_refl _)
    have hn2 : norefs H.length ((inO l (o.take n)).flatMap (rowL .u16 12)) = true := (flat_rowL .u16 12).norefs _ _
    have hl2 : ((inO l (o.take n)).flatMap (rowL .u16 12)).length = (inO l (o.take n)).length * 12 := by rw [(flat_rowL .u16 12).flen]
    have hle : (inO l (o.take n)).length = n := by rw [inO_len, List.length_take]; omega
    have hij : (i = H.length) = False := eq_false (by omega)
    have hij2 : (i2 = H.length) = False := eq_false (by omega)
    have hd1 : (H.length + 1 = H.length) = False := eq_false (by omega)
    repeat (first | (simp only [go_sem, Int.reduceLT, Int.reduceLE, Int.reduceEq, Int.reduceToNat, hc, (get_app hat.get), hat.live, (get_app hat2.get), hat2.live, a0, hz, hn1, hn2, hl2, hij, hij2, hd1, hx, rowL_rep]) | ((with_reducible refine And.intro ?_ ?_); omega) | ((with_reducible refine And.intro ?_ ?_); first | (with_reducible rfl) | assumption | (simp only [go_sem]; done)))
    refine EK_again (n + 1) ?_ (by omega) (by omega)
    rw [e3, flat_snoc]
    exact Weak.keepN rfl (by simp [go_sem] <;> omega) (by simp [hx]) (by simp [go_sem, hil, hil2, (flat_rowL .u16 12).lts] <;> omega) (hw.app (by simp [go_sem, hil, hil2, (flat_rowL .u16 12).lts] <;> omega))
  · have : n = o.length := by omega
    subst this
    rw [List.take_length]
    repeat (first | (simp only [go_sem, Int.reduceLT, Int.reduceLE, Int.reduceEq, Int.reduceToNat, Int.not_lt.2 hc]) | ((with_reducible refine And.intro ?_ ?_); omega) | ((with_reducible refine And.intro ?_ ?_); first | (with_reducible rfl) | assumption | (simp only [go_sem]; done)))
    refine ret_at hq _ (.inl rfl) (by simp) ?_
    simp [go_sem]
theorem l04Pages {H : List Blk} {v w : V} {l : List (Nat → Int)} {o : List Int} (h : Rd H v (rowL .u16 12) l) (h2 : Rd H w i64C o) (ho : okI l o) (hl : o.length ≤ 1000000) :
    Cal Tryz.prog 42 [v, w] H fun u H' => u = .s H.length 0 (inO l o).length (.u 0) ∧ H' = H ++ [⟨(inO l o).flatMap (rowL .u16 12), 63, .own 12⟩] := by
  have hsol := h.solid
  have hsol2 := h2.solid
  have hL2 := h2.lenV (P := Tryz.prog) slTy27
  refine cal_fn 23 mixed Tryz.func42 Tryz.ntmps42 Tryz.results42 rfl rfl rfl fun hw cx hx hq => ?_
  repeat (first | (simp only [go_sem, Int.reduceLT, Int.reduceLE, Int.reduceEq, Int.reduceToNat, hsol, hsol2]) | ((with_reducible refine And.intro ?_ ?_); omega) | ((with_reducible refine And.intro ?_ ?_); first | (with_reducible rfl) | assumption | (simp only [go_sem]; done)))
  refine WK_for (fun n : Nat => ⟨[v, w, .any, .any, .any, .s H.length 0 (inO l (o.take n)).length (.u 0), .v (.int .i64 n)] ++ junk 18, H ++ [⟨(inO l (o.take n)).flatMap (rowL .u16 12), 63, .own 12⟩]⟩) (fun n => n ≤ o.length) (fun n => o.length - n) 0 (Weak.slots ?_) ?_ fun n hn => ?_
  · simp [go_sem, inO]
  · simp
  rcases Int.lt_or_le (n : Int) o.length with hc | hc
  · have hj : n < o.length := by omega
    have hk := ho _ (List.getElem_mem hj)
    obtain ⟨i, off, c, b, rfl, hat⟩ := h.row (by omega)
    obtain ⟨i2, off2, c2, b2, rfl, hat2⟩ := h2.row (by omega)
    have hil := hat.lt
    have hil2 := hat2.lt
    have hll := hat2.len (by rw [flat_i64.flen]; omega)
    rw [flat_i64.flen] at hll
    have hz := hat2.i64 hj
    have e3 := inO_succ (l := l) hj
    generalize o[n] = x at hk hz e3
    have a0 := hat.elem (rowL .u16 12) 12 hz12 (show x.toNat < l.length by omega)
    have f0 := hat.fits (rowL .u16 12) 12 hz12 (show x.toNat < l.length by omega) (by omega)
    rw [← pg_at] at a0
    have hn1 : norefH H.length H := norefH_wf hw (Nat.le_refl _)
    have hn2 : norefs H.length ((inO l (o.take n)).flatMap (rowL .u16 12)) = true := (flat_rowL .u16 12).norefs _ _
    have hl2 : ((inO l (o.take n)).flatMap (rowL .u16 12)).length = (inO l (o.take n)).length * 12 := by rw [(flat_rowL .u16 12).flen]
    have hle : (inO l (o.take n)).length = n := by rw [inO_len, List.length_take]; omega
    have hij : (i = H.length) = False := eq_false (by omega)
    have hij2 : (i2 = H.length) = False := eq_false (by omega)
    have hd1 : (H.length + 1 = H.length) = False := eq_false (by omega)
    repeat (first | (simp only [go_sem, Int.reduceLT, Int.reduceLE, Int.reduceEq, Int.reduceToNat, hL2, hc, (get_app hat.get), hat.live, (get_app hat2.get), hat2.live, a0, hz, hn1, hn2, hl2, hij, hij2, hd1, hx, rowL_rep]) | ((with_reducible refine And.intro ?_ ?_); omega) | ((with_reducible refine And.intro ?_ ?_); first | (with_reducible rfl) | assumption | (simp only [go_sem]; done)))
    refine EK_again (n + 1) ?_ (by omega) (by omega)
    rw [e3, flat_snoc]
    exact Weak.keepN rfl (by simp [go_sem] <;> omega) (by simp [hx]) (by simp [go_sem, hil, hil2, (flat_rowL .u16 12).lts] <;> omega) (hw.app (by simp [go_sem, hil, hil2, (flat_rowL .u16 12).lts] <;> omega))
  · have : n = o.length := by omega
    subst this
    rw [List.take_length]
    repeat (first | (simp only [go_sem, Int.reduceLT, Int.reduceLE, Int.reduceEq, Int.reduceToNat, hL2, Int.not_lt.2 hc]) | ((with_reducible refine And.intro ?_ ?_); omega) | ((with_reducible refine And.intro ?_ ?_); first | (with_reducible rfl) | assumption | (simp only [go_sem]; done)))
    refine ret_at hq _ (.inl rfl) (by simp) ?_
    simp [go_sem]
end Go.Proofs.YtaekjojblkhfdaaGreat
namespace Go.Proofs.YtaekjojblkhfdaaGreat
open Go Go.Sx
/-- The numbers from 0 on. -/
def plainL (n : Nat) : List Int := (List.range n).map fun j : Nat => (j : Int)
theorem plainL_len (n : Nat) : (plainL n).length = n := by simp [plainL]
theorem plainL_succ (n : Nat) : plainL (n + 1) = plainL n ++ [(n : Int)] := by unfold plainL; rw [List.range_succ, List.map_append]; rfl
theorem l04Plain {H : List Blk} {n : Nat} (hn : n ≤ 1000000) :
    Cal Tryz.prog 35 [.v (.int .i64 n)] H fun u H' => u = .s H.length 0 n (.u 0) ∧ H' = H ++ [⟨(plainL n).flatMap i64C, 2, .own 1⟩] := by
  refine cal_fn 15 mixed Tryz.func35 Tryz.ntmps35 Tryz.results35 rfl rfl rfl fun hw cx hx hq => ?_
  repeat (first | (simp only [go_sem, Int.reduceLT, Int.reduceLE, Int.reduceEq, Int.reduceToNat]) | ((with_reducible refine And.intro ?_ ?_); omega) | ((with_reducible refine And.intro ?_ ?_); first | (with_reducible rfl) | assumption | (simp only [go_sem]; done)))
  refine WK_for (fun m : Nat => ⟨[.v (.int .i64 n), .any, .any, .s H.length 0 m (.u 0), .v (.int .i64 m)] ++ junk 11, H ++ [⟨(plainL m).flatMap i64C, 2, .own 1⟩]⟩) (fun m => m ≤ n) (fun m => n - m) 0 (Weak.slots ?_) ?_ fun m hm => ?_
  · simp [go_sem, plainL]
  · simp
  rcases Int.lt_or_le (m : Int) n with hc | hc
  · have hn1 : norefH H.length H := norefH_wf hw (Nat.le_refl _)
    have hn2 : norefs H.length ((plainL m).flatMap i64C) = true := flat_i64.norefs _ _
    have hl2 : ((plainL m).flatMap i64C).length = m := by rw [flat_i64.flen, Nat.mul_one, plainL_len]
    have hd1 : (H.length + 1 = H.length) = False := eq_false (by omega)
    repeat (first | (simp only [go_sem, Int.reduceLT, Int.reduceLE, Int.reduceEq, Int.reduceToNat, hc, hn1, hn2, hl2, hd1, hx]) | ((with_reducible refine And.intro ?_ ?_); omega) | ((with_reducible refine And.intro ?_ ?_); first | (with_reducible rfl) | assumption | (simp only [go_sem]; done)))
    refine EK_again (m + 1) ?_ (by omega) (by omega)
    rw [plainL_succ, flat_snoc]
    exact Weak.keepN rfl (by simp [go_sem] <;> omega) (by simp [hx]) (by simp [go_sem, flat_i64.lts, i64C] <;> omega) (hw.app (by simp [go_sem, flat_i64.lts, i64C] <;> omega))
  · have : m = n := by omega
    subst this
    repeat (first | (simp only [go_sem, Int.reduceLT, Int.reduceLE, Int.reduceEq, Int.reduceToNat, Int.not_lt.2 hc]) | ((with_reducible refine And.intro ?_ ?_); omega) | ((with_reducible refine And.intro ?_ ?_); first | (with_reducible rfl) | assumption | (simp only [go_sem]; done)))
    refine ret_at hq _ (.inl rfl) (by simp) ?_
    simp [go_sem]
end Go.Proofs.YtaekjojblkhfdaaGreat
namespace Go.Proofs.YtaekjojblkhfdaaGreat
open Go Go.Sx
theorem zeroA : ([.v (.int .i64 0), .v (.int .i64 0)] : List V) = rowL .i64 2 fun _ => 0 := rfl
end Go.Proofs.YtaekjojblkhfdaaGreat
namespace Go.Proofs.YtaekjojblkhfdaaGreat
open Go Go.Sx
/-- What stands there when m things are turned. -/
def turnP (l : List Int) (i k m : Nat) : List Int := l.take i ++ ((l.drop (k + 1 - m)).take m).reverse
theorem turnP_len {l : List Int} {i k m : Nat} (hi : i ≤ k) (hk : k < l.length) (hm : m ≤ k + 1 - i) : (turnP l i k m).length = i + m := by
  unfold turnP; simp; omega
theorem turnP_succ {l : List Int} {i k m : Nat} (hi : i ≤ k) (hk : k < l.length) (hm : m < k + 1 - i) : turnP l i k (m + 1) = turnP l i k m ++ [l[k - m]] := by
  unfold turnP
  have e : k + 1 - (m + 1) = k - m := by omega
  have e2 : k + 1 - m = k - m + 1 := by omega
  rw [e, e2, List.drop_eq_getElem_cons (show k - m < l.length by omega), List.take_succ_cons, List.reverse_cons, List.append_assoc]
theorem turnP_all {l : List Int} {i k : Nat} (hi : i ≤ k) (hk : k < l.length) : turnP l i k (k + 1 - i) ++ l.drop (k + 1) = turnL l i k := by
  unfold turnP turnL
  rw [show k + 1 - (k + 1 - i) = i by omega, List.append_assoc]
theorem l04Turned {H : List Blk} {bi : Nat} {l : List Int} {i k : Nat} {ty : TypeId} (hb : H[bi]? = some ⟨l.flatMap i64C, ty, .own 1⟩) (hik : i ≤ k) (hk : k < l.length) (hl : l.length ≤ 1000000) :
    Cal Tryz.prog 36 [.s bi 0 l.length (.u 0), .v (.int .i64 i), .v (.int .i64 k)] H fun u H' => u = .s H.length 0 l.length (.u 0) ∧ H' = H ++ [⟨(turnL l i k).flatMap i64C, 2, .own 1⟩] := by
  have hbl : bi < H.length := (List.getElem?_eq_some_iff.1 hb).1
  have hfl : (l.flatMap i64C).length = l.length := by rw [flat_i64.flen, Nat.mul_one]
  refine cal_fn 30 mixed Tryz.func36 Tryz.ntmps36 Tryz.results36 rfl rfl rfl fun hw cx hx hq => ?_
  have hn1 : norefH H.length H := norefH_wf hw (Nat.le_refl _)
  have hd1 : (H.length + 1 = H.length) = False := eq_false (by omega)
  have hd2 : (bi = H.length) = False := eq_false (by omega)
  repeat (first | (simp only [go_sem, Int.reduceLT, Int.reduceLE, Int.reduceEq, Int.reduceToNat, (get_app hb), hfl, hn1, hd1, hd2, hx, segI, List.drop_zero]) | ((with_reducible refine And.intro ?_ ?_); omega) | ((with_reducible refine And.intro ?_ ?_); first | (with_reducible rfl) | assumption | (simp only [go_sem]; done)))
  refine WK_for (fun m : Nat => ⟨[.s bi 0 l.length (.u 0), .v (.int .i64 i), .v (.int .i64 k), .any, .any, .any, .any, .s H.length 0 (i + m) (.u 0), .v (.int .i64 ((k : Int) - m))] ++ junk 24, H ++ [⟨(turnP l i k m).flatMap i64C, 2, .own 1⟩]⟩) (fun m => m ≤ k + 1 - i) (fun m => k + 1 - i - m) 0 ?_ ?_ fun m hm => ?_
  · rw [show turnP l i k 0 = l.take i by simp [turnP]]; exact Weak.slots (by simp [go_sem])
  · simp
  have hpl := turnP_len (l := l) hik hk hm
  have hl2 : ((turnP l i k m).flatMap i64C).length = i + m := by rw [flat_i64.flen, Nat.mul_one, hpl]
  have hn2 : norefs H.length ((turnP l i k m).flatMap i64C) = true := flat_i64.norefs _ _
  rcases Int.lt_or_le ((k : Int) - m) i with hc | hc
  · have : m = k + 1 - i := by omega
    subst this
    by_cases he : k + 1 = l.length
    · have e1 : ((k : Int) + 1 = (l.length : Int)) = True := eq_true (by omega)
      have e0 : (0 < (k : Int) + 1) = True := eq_true (by omega)
      repeat (first | (simp only [go_sem, Int.reduceLT, Int.reduceLE, Int.reduceEq, Int.reduceToNat, Int.not_le.2 hc, (get_app hb), hfl, hn1, hd1, hd2, hx, e0, e1, hl2, hn2]) | ((with_reducible refine And.intro ?_ ?_); omega) | ((with_reducible refine And.intro ?_ ?_); first | (with_reducible rfl) | assumption | (simp only [go_sem]; done)))
      refine ret_at hq _ (.inl rfl) (by simp) ?_
      have e2 : turnL l i k = turnP l i k (k + 1 - i) := by rw [← turnP_all hik hk, he, List.drop_length, List.append_nil]
      simp [go_sem, e2]
      omega
    · have e1 : ((k : Int) + 1 = (l.length : Int)) = False := eq_false (by omega)
      have t1 : ((k : Int) + 1).toNat = k + 1 := by omega
      have e0 : (0 < (k : Int) + 1) = True := eq_true (by omega)
      repeat (first | (simp only [go_sem, Int.reduceLT, Int.reduceLE, Int.reduceEq, Int.reduceToNat, Int.not_le.2 hc, (get_app hb), hfl, hn1, hd1, hd2, hx, e0, e1, hl2, hn2, t1, segI]) | ((with_reducible refine And.intro ?_ ?_); omega) | ((with_reducible refine And.intro ?_ ?_); first | (with_reducible rfl) | assumption | (simp only [go_sem]; done)))
      refine ret_at hq _ (.inl rfl) (by simp) ?_
      have e2 : (l.drop (k + 1)).take (l.length - (k + 1)) = l.drop (k + 1) := List.take_of_length_le (by simp)
      simp [go_sem, ← turnP_all hik hk, e2]
      omega
  · have t1 : ((k : Int) - m).toNat = k - m := by omega
    have hj : k - m < l.length := by omega
    have hcel := (At.mk0 (H := []) (L := []) (cs := l.flatMap i64C) (t := 0) (k := .own 1) rfl).i64 hj
    simp only [Nat.zero_add] at hcel
    have hs := turnP_succ hik hk (show m < k + 1 - i by omega)
    repeat (first | (simp only [go_sem, Int.reduceLT, Int.reduceLE, Int.reduceEq, Int.reduceToNat, hc, (get_app hb), hfl, hn1, hd1, hd2, hx, hl2, hn2, t1, hcel]) | ((with_reducible refine And.intro ?_ ?_); omega) | ((with_reducible refine And.intro ?_ ?_); first | (with_reducible rfl) | assumption | (simp only [go_sem]; done)))
    refine EK_again (m + 1) ?_ (by omega) (by omega)
    rw [hs, flat_snoc]
    exact Weak.keepN rfl (by simp [go_sem] <;> omega) (by simp [hx]) (by simp [go_sem, flat_i64.lts, i64C] <;> omega) (hw.app (by simp [go_sem, flat_i64.lts, i64C] <;> omega))
theorem l04T {H : List Blk} {bi n : Nat} {l : List Int} {i k : Nat} {ty : TypeId} (hb : H[bi]? = some ⟨l.flatMap i64C, ty, .own 1⟩) (hik : i ≤ k) (hk : k < l.length) (hl : l.length ≤ 1000000) (hn : n = l.length) :
    Cal Tryz.prog 36 [.s bi 0 n (.u 0), .v (.int .i64 i), .v (.int .i64 k)] H fun u H' => u = .s H.length 0 n (.u 0) ∧ H' = H ++ [⟨(turnL l i k).flatMap i64C, 2, .own 1⟩] := by
  subst hn; exact l04Turned hb hik hk hl
end Go.Proofs.YtaekjojblkhfdaaGreat
namespace Go.Proofs.YtaekjojblkhfdaaGreat
open Go Go.RowKit Go.Shelf Go.Proofs
attribute [local go_sem] Oper.semAt_some
/-- What has come when k rounds are over. -/
def upto {α : Type} (f : Nat → α) (k : Nat) : List α := (List.range k).map f
theorem upto_succ {α : Type} (f : Nat → α) (k : Nat) : upto f (k + 1) = upto f k ++ [f k] := by simp [upto, List.range_succ]
theorem upto_length {α : Type} (f : Nat → α) (k : Nat) : (upto f k).length = k := by simp [upto]
theorem upto_all (zs : List Int) : upto (fun j => zs[j]?.getD 0) zs.length = zs := by
  apply List.ext_getElem
  · simp [upto]
  · intro i h1 h2
    simp [upto, h2]
theorem upto_take (zs : List Int) {k : Nat} (hk : k ≤ zs.length) : upto (fun j => zs[j]?.getD 0) k = zs.take k := by
  apply List.ext_getElem
  · simp [upto, hk]
  · intro i h1 h2
    have : i < zs.length := by simp [upto] at h1; omega
    simp [upto, this]
set_option maxRecDepth 100000 in
set_option maxHeartbeats 2000000 in
/-- The closure of slices.Values, for every body that keeps what lay below n₀. -/
theorem values1 (n : Nat) (hn : 1 ≤ n) (l Bs n₀ b off len cap : Nat) (zs : List Int) (hreach : len * 8 ≤ 140737488351232) (hb : b < n₀) (J Jx : List Int → World → Prop)
    (hY : ∀ pre x W, J pre W → pre.length < len → YieldAt Fence.wide (n - 1) Tryz.prog l #[.int .i64 x] W fun e W' =>
      (e = .returned (.bool true) ∧ J (pre ++ [x]) W' ∧ Below n₀ W W') ∨ (e = .returned (.bool false) ∧ Jx (pre ++ [x]) W'))
    (W : World) (hBs : W.cell? ⟨Bs, 0, none⟩ = some (.slice (some ⟨b, off, none⟩) len cap)) (hc : ∀ j, j < len → W.cell? ⟨b, off + j, none⟩ = some (.int .i64 (zs[j]?.getD 0))) (h0 : J [] W) :
    CallsIn Fence.wide n Tryz.prog 65 #[.func (.yield l) #[] #[], .pointer (some ⟨Bs, 0, none⟩)] W fun e W' => (∃ v, e = .returned v) ∧
      ((∃ ys, ys = upto (fun j => zs[j]?.getD 0) len ∧ J ys W') ∨ (∃ pre, (∃ k, k ≤ len ∧ pre = upto (fun j => zs[j]?.getD 0) k) ∧ Jx pre W')) := by
  refine callsIn_of_wp Tryz.func65 rfl trivial ?_ rfl
  simp only [Tryz.ntmps65, List.size_toArray, List.length_cons, List.length_nil, Nat.reduceAdd, Nat.reduceSub, Array.replicate_succ, Array.replicate_zero, List.push_toArray, List.append_toArray, List.nil_append, List.cons_append]
  gi_wp2
  gi_loopw [7] (fun i wr => ∃ k : Nat, k ≤ len ∧ i = .int .i64 k ∧ J (upto (fun j => zs[j]?.getD 0) k) wr ∧ Below n₀ W wr)
    (fun i _ => len - (intOf i).toNat)
  case atStart => exact ⟨0, Nat.zero_le _, rfl, h0, Below.refl _ _⟩
  case round =>
    obtain ⟨k, hk, rfl, hJs, hnx⟩ := hrel
    have hcx : k < len → wr.cell? ⟨b, off + k, none⟩ = some (.int .i64 (zs[k]?.getD 0)) := fun h => (hnx.cell (p := ⟨b, off + k, none⟩) hb).trans (hc k h)
    by_cases hlt : k < len
    · obtain ⟨fn, tmps, assign, body, hy, hR⟩ := hY _ (zs[k]?.getD 0) wr hJs (by rw [upto_length]; exact hlt)
      have hcx' := hcx hlt
      gi_wp2
      refine hR.mono ?_
      rintro e W3 (⟨rfl, hJ3, hk3⟩ | ⟨rfl, hJx3⟩)
      · gi_wp2
        go_roundw
        case rel => exact ⟨k + 1, by omega, by simp, by rw [upto_succ]; exact hJ3, hnx.trans hk3⟩
        case measure => simp [intOf]; omega
      · gi_wp2
        refine bodyPost_ret (results_none rfl _ _ _) rfl ?_
        exact ⟨⟨_, rfl⟩, .inr ⟨_, ⟨k + 1, by omega, (upto_succ _ _).symm⟩, hJx3⟩⟩
    · obtain rfl : k = len := by omega
      gi_wp2
      go_end0
      exact ⟨⟨_, rfl⟩, .inl ⟨_, rfl, hJs⟩⟩
/-- The slice's value holds these numbers, in a block below n₀; or it is nil and there are none. -/
def Ints (n₀ : Nat) (W : World) (sv : Value) (zs : List Int) : Prop :=
  (sv = .slice none 0 0 ∧ zs = []) ∨ ∃ b off cap, sv = .slice (some ⟨b, off, none⟩) zs.length cap ∧ b < n₀ ∧ ∀ j, j < zs.length → W.cell? ⟨b, off + j, none⟩ = some (.int .i64 (zs[j]?.getD 0))
theorem Ints.below {n₀ : Nat} {A B : World} (h : Below n₀ A B) {sv : Value} {zs : List Int} : Ints n₀ A sv zs → Ints n₀ B sv zs
  | .inl e => .inl e
  | .inr ⟨b, off, cap, e, hb, hc⟩ => .inr ⟨b, off, cap, e, hb, fun j hj => (h.cell (p := ⟨b, off + j, none⟩) hb).trans (hc j hj)⟩
set_option maxRecDepth 100000 in
set_option maxHeartbeats 1000000 in
theorem values1_nil (n : Nat) (l Bs : Nat) (J : List Int → World → Prop) (W : World) (hBs : W.cell? ⟨Bs, 0, none⟩ = some (.slice none 0 0)) (h0 : J [] W) :
    CallsIn Fence.wide n Tryz.prog 65 #[.func (.yield l) #[] #[], .pointer (some ⟨Bs, 0, none⟩)] W fun e W' => (∃ v, e = .returned v) ∧ J [] W' := by
  refine callsIn_of_wp Tryz.func65 rfl trivial ?_ rfl
  simp only [Tryz.ntmps65, List.size_toArray, List.length_cons, List.length_nil, Nat.reduceAdd, Nat.reduceSub, Array.replicate_succ, Array.replicate_zero, List.push_toArray, List.append_toArray, List.nil_append, List.cons_append]
  gi_wp2
  gi_loopw [7] (fun i wr => i = .int .i64 0 ∧ J [] wr) (fun _ _ => 0)
  case atStart => exact ⟨rfl, h0⟩
  case round =>
    obtain ⟨rfl, hJs⟩ := hrel
    gi_wp2
    go_end0
    exact ⟨⟨_, rfl⟩, hJs⟩
theorem values_stops (n : Nat) (hn : 1 ≤ n) (Bs n₀ : Nat) (sv : Value) (zs : List Int) (hreach : zs.length * 8 ≤ 140737488351232) (w : World) (hBs : Bs < w.heap.size) (hn₀ : n₀ ≤ w.heap.size)
    (hc : w.cell? ⟨Bs, 0, none⟩ = some sv) (hI : Ints n₀ w sv zs) :
    SeqStopsK Fence.wide n Tryz.prog 65 #[.pointer (some ⟨Bs, 0, none⟩)] (fun x : Int => #[Value.int .i64 x]) (Below n₀) (fun ys => ys = zs) (fun pre => pre <+: zs) zs.length w := fun l J Jx W hW _ _ hY h0 => by
  have hc' := (hW.cell (p := ⟨Bs, 0, none⟩) hBs).trans hc
  rcases hI.below (hW.mono hn₀) with ⟨rfl, rfl⟩ | ⟨b, off, cap, rfl, hb, hcs⟩
  · exact (values1_nil n l Bs J W hc' h0).mono fun e W' ⟨he, hj⟩ => ⟨he, .inl ⟨_, rfl, hj⟩⟩
  · refine (values1 n hn l Bs n₀ b off zs.length cap zs hreach hb J Jx hY W hc' hcs h0).mono ?_
    rintro e W' ⟨he, ⟨ys, rfl, hj⟩ | ⟨pre, ⟨k, hk, rfl⟩, hj⟩⟩
    · exact ⟨he, .inl ⟨_, upto_all zs, hj⟩⟩
    · exact ⟨he, .inr ⟨_, by rw [upto_take zs hk]; exact List.take_prefix _ _, hj⟩⟩
theorem infoI64 : (Tryz.prog.info? 2).map (fun i => (i.zero, i.size, i.bytes)) = some (some (.int .i64 0), 1, 8) := by kernel_rfl
set_option maxRecDepth 100000 in
set_option maxHeartbeats 2000000 in
/-- slices.AppendSeq of nothing and the values of a slice. -/
theorem appendSeqIn (n : Nat) (hn : 3 ≤ n) (Bs : Nat) (sv : Value) (xs : List Int) (hlen : xs.length ≤ 1000000) (w : World) (hBs : Bs < w.heap.size) (hcs : w.cell? ⟨Bs, 0, none⟩ = some sv) (hI : Ints w.heap.size w sv xs) :
    CallsIn Fence.wide n Tryz.prog 84 #[.slice none 0 0, .func (.func 65) #[] #[.pointer (some ⟨Bs, 0, none⟩)]] w fun e W' =>
      ∃ v, e = .returned v ∧ W'.ownsRow w.heap.size 2 1 v xs.length (xs.map (Value.int .i64)) ∧ (v = .slice none 0 0 ↔ xs = []) ∧ Below w.heap.size w W' := by
  have h1 : 1 ≤ n := by omega
  obtain ⟨i0, hi, hz0, hz1, hz2⟩ := info_parts infoI64
  refine callsIn_of_wp_marks Tryz.func84 rfl trivial ?_ rfl
  simp only [Tryz.ntmps84, List.size_toArray, List.length_cons, List.length_nil, Nat.reduceAdd, Nat.reduceSub, Array.replicate_succ, Array.replicate_zero, List.push_toArray, List.append_toArray, List.nil_append, List.cons_append]
  gi_wp2
  have bO := Boxed.new w 27 (.slice none 0 0)
  have hB0 : Below w.heap.size w (w.alloc (.cells #[.slice none 0 0] 27)) := (Below.refl _ w).alloc (Nat.le_refl _) _
  refine wpIn_rangeFunc_ownG rfl h1 (gf := 65) (lb := #[.pointer (some ⟨Bs, 0, none⟩)]) rfl trivial (enters_of Tryz.func65 (by kernel_rfl) rfl)
    (values_stops (n - 1) (by omega) Bs w.heap.size sv xs (by omega) _ (by simp; omega) (by simp) ((hB0.cell (p := ⟨Bs, 0, none⟩) hBs).trans hcs) (hI.below hB0)) belowK_t (belowK_b (by simp)) (Below.refl _ _) (fun _ => rfl)
    (fun pre W => (∃ v, Boxed W w.heap.size 27 v ∧ W.ownsRow w.heap.size 2 1 v pre.length (pre.map (Value.int .i64)) ∧ (v = .slice none 0 0 ↔ pre = [])) ∧ Below w.heap.size w W)
    (fun _ _ _ => False)
    (OwnFrom.and (Own.from (holdsRow_own w.heap.size w.heap.size 27 2 1 (fun pre : List Int => pre.length) (fun pre => pre.map (Value.int .i64)) (fun pre v => v = .slice none 0 0 ↔ pre = [])) _) (ownFrom_below (Nat.le_refl _) (by simp)))
    (fun _ _ _ _ _ hs _ _ => hs)
    ⟨⟨_, bO, World.ownsRow_nil _ _ _ _, by simp⟩, hB0⟩
    (fun x => { tmps := #[.slice none 0 0, .func (.func 65) #[] #[.pointer (some ⟨Bs, 0, none⟩)], .pointer (some ⟨w.heap.size, 0, none⟩), undef, .slice none 0 0, .int .i64 x, .func (.func 65) #[] #[.pointer (some ⟨Bs, 0, none⟩)], .int .i64 x, undef, undef, undef, undef, undef], defers := [] }) ?assign ?body ?done ?stop
  case assign =>
    intro l x W K hK
    gi_wp2
    exact hK
  case body =>
    rintro l pre x W ⟨⟨v, hv, hrow, hnil⟩, hB⟩ hlt
    have hc := hv.cell
    gi_wp2_with (gi_at_builtin; refine wpListIn_append_own _ rfl _ _ 27 rfl w.heap.size 2 i0 (.int .i64 0) 1 8 Tryz.underlying27 hi hz0 hz1 hz2 rfl (by decide) _ _ _ rfl (hrow.alloc _) ⟨W.heap.size, 0, none⟩ 1 1 [.int .i64 x] rfl rfl (cell_one_new _ _ _) (by simp [Value.oneCell']) (by unfold maxLen; omega) (by omega) (by have := hB.size; simp; omega) ?_; intro v' w1 hown' hgrow _; obtain ⟨g', cap', rfl⟩ := ownsRow_succ hown'; obtain ⟨hv1, hv2, hr2, hk2, hb2⟩ := hv.appended (by decide) hrow hB.size (Nat.le_refl _) hown' hgrow; have hc1 := hv1.cell; have hf1 := hv1.frozen)
    exact ⟨hk2.from _, hb2, ⟨_, hv2, by simpa using hr2, by simp⟩, hB.trans hb2⟩
  case done =>
    rintro D ys W hD rfl ⟨⟨v, hv, hrow, hnil⟩, hB⟩ hK
    have hc := hv.cell
    gi_wp2
    refine ⟨by simp, .inl ⟨_, _, rfl, run_takeDeferred hK, ?_⟩⟩
    exact ⟨_, results_tmp rfl _ _ _, v, rfl, ownsRow_putObj hrow _ hK rfl, hnil, hB.trans (belowK_b (w := w) (Nat.le_refl _) W D _ _ (by simp at hD; omega) hK rfl rfl)⟩
  case stop =>
    rintro D c pre W _ _ h _
    exact h.elim
end Go.Proofs.YtaekjojblkhfdaaGreat
namespace Go.Proofs.YtaekjojblkhfdaaGreat
open Go Go.Shelf
def sortLaid_ren : Go.Shelf.Ren := ⟨fun | 5 => 64 | 8 => 86 | 7 => 85 | 19 => 109 | 20 => 110 | 10 => 100 | 11 => 101 | 12 => 102 | 13 => 103 | 14 => 104 | 15 => 105 | 16 => 106 | 17 => 107 | 18 => 108 | 30 => 117 | 31 => 118 | 32 => 119 | 33 => 120 | 34 => 121 | 35 => 122 | 40 => 124 | n => n, fun | 23 => 27 | 25 => 2 | 3 => 3 | 32 => 82 | 22 => 27 | 0 => 0 | 44 => 123 | 46 => 83 | 4 => 4 | 36 => 116 | 35 => 115 | 41 => 120 | 5 => 5 | 9 => 9 | 53 => 131 | 57 => 135 | 63 => 138 | 64 => 139 | n => n, fun | n => n⟩
theorem sortLaid : Go.Proofs.SlLaysM.n5 Tryz.prog sortLaid_ren := {
  mixed := by kernel_rfl
  f5 := ⟨Tryz.f64.name, by decide, Tryz.func64.trans (congrArg some (by kernel_rfl))⟩
  f7 := ⟨Tryz.f85.name, by decide, Tryz.func85.trans (congrArg some (by kernel_rfl))⟩
  f8 := Tryz.func86.trans (congrArg some (by kernel_rfl))
  f10 := ⟨Tryz.f100.name, by decide, Tryz.func100.trans (congrArg some (by kernel_rfl))⟩
  f11 := ⟨Tryz.f101.name, by decide, Tryz.func101.trans (congrArg some (by kernel_rfl))⟩
  f12 := ⟨Tryz.f102.name, by decide, Tryz.func102.trans (congrArg some (by kernel_rfl))⟩
  f13 := ⟨Tryz.f103.name, by decide, Tryz.func103.trans (congrArg some (by kernel_rfl))⟩
  f14 := ⟨Tryz.f104.name, by decide, Tryz.func104.trans (congrArg some (by kernel_rfl))⟩
  f15 := ⟨Tryz.f105.name, by decide, Tryz.func105.trans (congrArg some (by kernel_rfl))⟩
  f16 := ⟨Tryz.f106.name, by decide, Tryz.func106.trans (congrArg some (by kernel_rfl))⟩
  f17 := ⟨Tryz.f107.name, by decide, Tryz.func107.trans (congrArg some (by kernel_rfl))⟩
  f18 := ⟨Tryz.f108.name, by decide, Tryz.func108.trans (congrArg some (by kernel_rfl))⟩
  f19 := Tryz.func109.trans (congrArg some (by kernel_rfl))
  f20 := Tryz.func110.trans (congrArg some (by kernel_rfl))
  f30 := ⟨Tryz.f117.name, by decide, Tryz.func117.trans (congrArg some (by kernel_rfl))⟩
  f31 := Tryz.func118.trans (congrArg some (by kernel_rfl))
  f32 := Tryz.func119.trans (congrArg some (by kernel_rfl))
  f33 := ⟨Tryz.f120.name, by decide, Tryz.func120.trans (congrArg some (by kernel_rfl))⟩
  f34 := ⟨Tryz.f121.name, by decide, Tryz.func121.trans (congrArg some (by kernel_rfl))⟩
  f35 := ⟨Tryz.f122.name, by decide, Tryz.func122.trans (congrArg some (by kernel_rfl))⟩
  f40 := ⟨Tryz.f124.name, by decide, Tryz.func124.trans (congrArg some (by kernel_rfl))⟩
  t0 := Tryz.underlying0
  a0 := Tryz.isAgg0
  z0 := Tryz.sizeOf0
  v0 := Tryz.zeroValue0
  t3 := Tryz.underlying3
  a3 := Tryz.isAgg3
  z3 := Tryz.sizeOf3
  v3 := Tryz.zeroValue3
  t4 := Tryz.underlying4
  a4 := Tryz.isAgg4
  z4 := Tryz.sizeOf4
  v4 := Tryz.zeroValue4
  t5 := Tryz.underlying5
  a5 := Tryz.isAgg5
  z5 := Tryz.sizeOf5
  v5 := Tryz.zeroValue5
  t9 := Tryz.underlying9
  a9 := Tryz.isAgg9
  z9 := Tryz.sizeOf9
  v9 := Tryz.zeroValue9
  t22 := Tryz.underlying27
  a22 := Tryz.isAgg27
  z22 := Tryz.sizeOf27
  v22 := Tryz.zeroValue27
  t23 := Tryz.underlying27
  a23 := Tryz.isAgg27
  z23 := Tryz.sizeOf27
  v23 := Tryz.zeroValue27
  t25 := Tryz.underlying2
  a25 := Tryz.isAgg2
  z25 := Tryz.sizeOf2
  v25 := Tryz.zeroValue2
  t32 := Tryz.underlying82
  a32 := Tryz.isAgg82
  z32 := Tryz.sizeOf82
  v32 := Tryz.zeroValue82
  t35 := Tryz.underlying115
  a35 := Tryz.isAgg115
  z35 := Tryz.sizeOf115
  v35 := Tryz.zeroValue115
  t36 := Tryz.underlying116
  a36 := Tryz.isAgg116
  z36 := Tryz.sizeOf116
  v36 := Tryz.zeroValue116
  t41 := Tryz.underlying120
  a41 := Tryz.isAgg120
  z41 := Tryz.sizeOf120
  v41 := Tryz.zeroValue120
  t44 := Tryz.underlying123
  a44 := Tryz.isAgg123
  z44 := Tryz.sizeOf123
  v44 := Tryz.zeroValue123
  t46 := Tryz.underlying83
  a46 := Tryz.isAgg83
  z46 := Tryz.sizeOf83
  v46 := Tryz.zeroValue83
  t53 := Tryz.underlying131
  a53 := Tryz.isAgg131
  z53 := Tryz.sizeOf131
  v53 := Tryz.zeroValue131
  t57 := Tryz.underlying135
  a57 := Tryz.isAgg135
  z57 := Tryz.sizeOf135
  v57 := Tryz.zeroValue135
  t63 := Tryz.underlying138
  a63 := Tryz.isAgg138
  z63 := Tryz.sizeOf138
  v63 := Tryz.zeroValue138
  t64 := Tryz.underlying139
  a64 := Tryz.isAgg139
  z64 := Tryz.sizeOf139
  v64 := Tryz.zeroValue139 }
end Go.Proofs.YtaekjojblkhfdaaGreat
