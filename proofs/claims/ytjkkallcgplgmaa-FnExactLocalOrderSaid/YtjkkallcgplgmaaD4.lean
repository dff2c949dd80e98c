/- Contracts of functions of the translated program, by the walk. -/
import Derived.Test.YtjkkallcgplgmaaD1
import Derived.Test.YtjkkallcgplgmaaLD
set_option linter.unusedVariables false
set_option linter.unusedSimpArgs false
set_option maxRecDepth 8000
set_option maxHeartbeats 4000000
namespace Go.Proofs.Ytjkkallcgplgmaa
open Go Go.Sx
/-- The pages in an order. -/
def inO (l : List (Nat → Int)) (o : List Int) : List (Nat → Int) := o.map fun k => pg l k.toNat
theorem inO_len (l : List (Nat → Int)) (o : List Int) : (inO l o).length = o.length := by simp [inO]
theorem inO_12 {l : List (Nat → Int)} (h : ∀ f ∈ l, F12 f) (o : List Int) : ∀ f ∈ inO l o, F12 f := fun f hf => by
  unfold inO at hf
  obtain ⟨k, _, rfl⟩ := List.mem_map.1 hf
  exact pg_12 h _
theorem inO_succ {l : List (Nat → Int)} {o : List Int} {n : Nat} (h : n < o.length) : inO l (o.take (n + 1)) = inO l (o.take n) ++ [pg l (o[n]).toNat] := by
  unfold inO; rw [List.take_succ_eq_append_getElem h, List.map_append]; rfl
/-- All numbers of an order are pages. -/
def okI (l : List (Nat → Int)) (o : List Int) : Prop := ∀ k ∈ o, 0 ≤ k ∧ k < l.length
theorem inOrder {H : List Blk} {v w : V} {l : List (Nat → Int)} {o : List Int} (h : Rd H v (rowL .u16 12) l) (h2 : Rd H w i64C o) (ho : okI l o) (hl : o.length ≤ 1000000) :
    Cal Try.prog 89 [v, w] H fun u H' => u = .s H.length 0 (inO l o).length (.u 0) ∧ H' = H ++ [⟨(inO l o).flatMap (rowL .u16 12), 64, .own 12⟩] := by
  have hsol := h.solid
  have hsol2 := h2.solid
  have hL2 := h2.lenV (P := Try.prog) slTy41
  refine cal_fn 22 mixed Try.func89 Try.ntmps89 Try.results89 rfl rfl rfl fun hw cx hx hq => ?_
  repeat (first | (simp only [go_sem, Int.reduceLT, Int.reduceLE, Int.reduceEq, Int.reduceToNat, hsol, hsol2, hL2]) | ((with_reducible refine And.intro ?_ ?_); omega) | ((with_reducible refine And.intro ?_ ?_); first | (with_reducible rfl) | assumption | (simp only [go_sem]; done)))
  refine WK_for (fun n : Nat => ⟨[v, .any, .any, .any, .any, .s H.length 0 (inO l (o.take n)).length (.u 0), .any, .any, .any, w, .v (.int .i64 o.length), .v (.int .i64 n)] ++ junk 12, H ++ [⟨(inO l (o.take n)).flatMap (rowL .u16 12), 64, .own 12⟩]⟩) (fun n => n ≤ o.length) (fun n => o.length - n) 0 (Weak.slots ?_) ?_ fun n hn => ?_
  · simp [go_sem, inO]
  · simp
  rcases Int.lt_or_le (n : Int) o.length with hc | hc
  · have hj : n < o.length := by omega
    have hk := ho _ (List.getElem_mem hj)
    obtain ⟨i, off, c, b, rfl, hat⟩ := h.row (by omega)
    obtain ⟨i2, off2, c2, b2, rfl, hat2⟩ := h2.row (by omega)
    have hil := hat.lt
    have hil2 := hat2.lt
    have hll := hat2.len (by rw [flat_i64.flen]; omega)
    rw [flat_i64.flen] at hll
    have hz := hat2.i64 hj
    have e3 := inO_succ (l := l) hj
    generalize o[n] = x at hk hz e3
    have a0 := hat.elem (rowL .u16 12) 12 hz12 (show x.toNat < l.length by omega)
    have f0 := hat.fits (rowL .u16 12) 12 hz12 (show x.toNat < l.length by omega) (by omega)
    rw [← pg_at] at a0
    have hn1 : norefH H.length H := norefH_wf hw (Nat.le_refl _)
    have hn2 : norefs H.length ((inO l (o.take n)).flatMap (rowL .u16 12)) = true := (flat_rowL .u16 12).norefs _ _
    have hl2 : ((inO l (o.take n)).flatMap (rowL .u16 12)).length = (inO l (o.take n)).length * 12 := by rw [(flat_rowL .u16 12).flen]
    have hle : (inO l (o.take n)).length = n := by rw [inO_len, List.length_take]; omega
    have hij : (i = H.length) = False := eq_false (by omega)
    have hij2 : (i2 = H.length) = False := eq_false (by omega)
    have hd1 : (H.length + 1 = H.length) = False := eq_false (by omega)
    repeat (first | (simp only [go_sem, Int.reduceLT, Int.reduceLE, Int.reduceEq, Int.reduceToNat, hc, (get_app hat.get), hat.live, (get_app hat2.get), hat2.live, a0, hz, hn1, hn2, hl2, hij, hij2, hd1, hx, rowL_rep]) | ((with_reducible refine And.intro ?_ ?_); omega) | ((with_reducible refine And.intro ?_ ?_); first | (with_reducible rfl) | assumption | (simp only [go_sem]; done)))
    refine EK_again (n + 1) ?_ (by omega) (by omega)
    rw [e3, flat_snoc]
    exact Weak.keepN rfl (by simp [go_sem] <;> omega) (by simp [hx]) (by simp [go_sem, hil, hil2, (flat_rowL .u16 12).lts] <;> omega) (hw.app (by simp [go_sem, hil, hil2, (flat_rowL .u16 12).lts] <;> omega))
  · have : n = o.length := by omega
    subst this
    rw [List.take_length]
    repeat (first | (simp only [go_sem, Int.reduceLT, Int.reduceLE, Int.reduceEq, Int.reduceToNat, Int.not_lt.2 hc]) | ((with_reducible refine And.intro ?_ ?_); omega) | ((with_reducible refine And.intro ?_ ?_); first | (with_reducible rfl) | assumption | (simp only [go_sem]; done)))
    refine ret_at hq _ (.inl rfl) (by simp) ?_
    simp [go_sem]
theorem l04Pages {H : List Blk} {v w : V} {l : List (Nat → Int)} {o : List Int} (h : Rd H v (rowL .u16 12) l) (h2 : Rd H w i64C o) (ho : okI l o) (hl : o.length ≤ 1000000) :
    Cal Try.prog 66 [v, w] H fun u H' => u = .s H.length 0 (inO l o).length (.u 0) ∧ H' = H ++ [⟨(inO l o).flatMap (rowL .u16 12), 64, .own 12⟩] := by
  have hsol := h.solid
  have hsol2 := h2.solid
  have hL2 := h2.lenV (P := Try.prog) slTy41
  refine cal_fn 23 mixed Try.func66 Try.ntmps66 Try.results66 rfl rfl rfl fun hw cx hx hq => ?_
  repeat (first | (simp only [go_sem, Int.reduceLT, Int.reduceLE, Int.reduceEq, Int.reduceToNat, hsol, hsol2]) | ((with_reducible refine And.intro ?_ ?_); omega) | ((with_reducible refine And.intro ?_ ?_); first | (with_reducible rfl) | assumption | (simp only [go_sem]; done)))
  refine WK_for (fun n : Nat => ⟨[v, w, .any, .any, .any, .s H.length 0 (inO l (o.take n)).length (.u 0), .v (.int .i64 n)] ++ junk 18, H ++ [⟨(inO l (o.take n)).flatMap (rowL .u16 12), 64, .own 12⟩]⟩) (fun n => n ≤ o.length) (fun n => o.length - n) 0 (Weak.slots ?_) ?_ fun n hn => ?_
  · simp [go_sem, inO]
  · simp
  rcases Int.lt_or_le (n : Int) o.length with hc | hc
  · have hj : n < o.length := by omega
    have hk := ho _ (List.getElem_mem hj)
    obtain ⟨i, off, c, b, rfl, hat⟩ := h.row (by omega)
    obtain ⟨i2, off2, c2, b2, rfl, hat2⟩ := h2.row (by omega)
    have hil := hat.lt
    have hil2 := hat2.lt
    have hll := hat2.len (by rw [flat_i64.flen]; omega)
    rw [flat_i64.flen] at hll
    have hz := hat2.i64 hj
    have e3 := inO_succ (l := l) hj
    generalize o[n] = x at hk hz e3
    have a0 := hat.elem (rowL .u16 12) 12 hz12 (show x.toNat < l.length by omega)
    have f0 := hat.fits (rowL .u16 12) 12 hz12 (show x.toNat < l.length by omega) (by omega)
    rw [← pg_at] at a0
    have hn1 : norefH H.length H := norefH_wf hw (Nat.le_refl _)
    have hn2 : norefs H.length ((inO l (o.take n)).flatMap (rowL .u16 12)) = true := (flat_rowL .u16 12).norefs _ _
    have hl2 : ((inO l (o.take n)).flatMap (rowL .u16 12)).length = (inO l (o.take n)).length * 12 := by rw [(flat_rowL .u16 12).flen]
    have hle : (inO l (o.take n)).length = n := by rw [inO_len, List.length_take]; omega
    have hij : (i = H.length) = False := eq_false (by omega)
    have hij2 : (i2 = H.length) = False := eq_false (by omega)
    have hd1 : (H.length + 1 = H.length) = False := eq_false (by omega)
    repeat (first | (simp only [go_sem, Int.reduceLT, Int.reduceLE, Int.reduceEq, Int.reduceToNat, hL2, hc, (get_app hat.get), hat.live, (get_app hat2.get), hat2.live, a0, hz, hn1, hn2, hl2, hij, hij2, hd1, hx, rowL_rep]) | ((with_reducible refine And.intro ?_ ?_); omega) | ((with_reducible refine And.intro ?_ ?_); first | (with_reducible rfl) | assumption | (simp only [go_sem]; done)))
    refine EK_again (n + 1) ?_ (by omega) (by omega)
    rw [e3, flat_snoc]
    exact Weak.keepN rfl (by simp [go_sem] <;> omega) (by simp [hx]) (by simp [go_sem, hil, hil2, (flat_rowL .u16 12).lts] <;> omega) (hw.app (by simp [go_sem, hil, hil2, (flat_rowL .u16 12).lts] <;> omega))
  · have : n = o.length := by omega
    subst this
    rw [List.take_length]
    repeat (first | (simp only [go_sem, Int.reduceLT, Int.reduceLE, Int.reduceEq, Int.reduceToNat, hL2, Int.not_lt.2 hc]) | ((with_reducible refine And.intro ?_ ?_); omega) | ((with_reducible refine And.intro ?_ ?_); first | (with_reducible rfl) | assumption | (simp only [go_sem]; done)))
    refine ret_at hq _ (.inl rfl) (by simp) ?_
    simp [go_sem]
end Go.Proofs.Ytjkkallcgplgmaa

