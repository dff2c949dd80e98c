/- Contracts of functions of the translated program, by the walk. -/
import Derived.Test.YtjkkallcgplgmaaLo2
import Derived.Test.YtjkkallcgplgmaaE3
set_option linter.unusedVariables false
set_option linter.unusedSimpArgs false
set_option maxRecDepth 8000
set_option maxHeartbeats 4000000
namespace Go.Proofs.Ytjkkallcgplgmaa
open Go Go.Sx
theorem localOrder1 {H : List Blk} {bb bc br : Nat} {v : V} {l : List (Nat → Int)} {o : List Int} {i k : Int} {c : Cap} {t1 t2 t3 : TypeId} {k1 k2 k3 : BK} (hb : H[bb]? = some ⟨[v], t1, k1⟩) (l1 : k1.live = true) (h : Rd H v (rowL .u16 12) l) (h12 : ∀ f ∈ l, F12 f) (hc : H[bc]? = some ⟨[.s br 0 o.length c], t2, k2⟩) (l2 : k2.live = true) (hrow : H[br]? = some ⟨o.flatMap i64C, t3, k3⟩) (l3 : k3.live = true) (ho : OrdP o l.length) (hl : l.length ≤ 40) (hi : -1 ≤ i ∧ i < o.length) (hk : 0 ≤ k ∧ k ≤ o.length) :
    Cal Try.prog 90 [.v (.int .i64 i), .v (.int .i64 k), .p bc 0, .p bb 0] H fun u H' => u = .v (.int .i64 (btw (inO l o) i k)) ∧ H' = H := by
  have hsol := h.solid
  have hL := inO_len l o
  have lb := (List.getElem?_eq_some_iff.1 hb).1
  have lc := (List.getElem?_eq_some_iff.1 hc).1
  have lr := (List.getElem?_eq_some_iff.1 hrow).1
  have hfl : (o.flatMap i64C).length = o.length := by rw [flat_i64.flen, Nat.mul_one]
  refine cal_fn 26 mixed Try.func90 Try.ntmps90 Try.results90 rfl rfl rfl fun hw cx hx hq => ?_
  by_cases hi0 : i < 0
  · have c1 : (i < 0) = True := eq_true hi0
    repeat (first | (simp only [go_sem, Int.reduceLT, Int.reduceLE, Int.reduceEq, Int.reduceToNat, c1, hb, hc, hrow, l1, l2, l3, hsol]) | ((with_reducible refine And.intro ?_ ?_); omega) | ((with_reducible refine isWKr (id := 3) ?_); refine WK_drawUp 3 [[],[],[],[1,2],[1,2,3],[0,1,2,3,4],[0,1,2,3,4,5],[],[],[],[8,9],[8,9,10],[7,8,9,10,11],[7,8,9,10,11,12],[0,1,2,3,4,5,6,7,8,9,10,11,12,13],[0,1,2,3,4,5,6,7,8,9,10,11,12,13,14]] 14 (by kernel_rfl) ?_; dsimp only [List.take, List.drop]) | ((with_reducible refine And.intro ?_ ?_); first | (with_reducible rfl) | assumption | (simp only [go_sem]; done)))
    refine ret_same hq _ (.inl rfl) ?_
    simp [go_sem, btw, hi0]
  have c1 : (i < 0) = False := eq_false hi0
  by_cases hkn : (o.length : Int) ≤ k
  · have c2 : ((o.length : Int) ≤ k) = True := eq_true hkn
    repeat (first | (simp only [go_sem, Int.reduceLT, Int.reduceLE, Int.reduceEq, Int.reduceToNat, c1, c2, hb, hc, hrow, l1, l2, l3, hsol]) | ((with_reducible refine And.intro ?_ ?_); omega) | ((with_reducible refine isWKr (id := 3) ?_); refine WK_drawUp 3 [[],[],[],[1,2],[1,2,3],[0,1,2,3,4],[0,1,2,3,4,5],[],[],[],[8,9],[8,9,10],[7,8,9,10,11],[7,8,9,10,11,12],[0,1,2,3,4,5,6,7,8,9,10,11,12,13],[0,1,2,3,4,5,6,7,8,9,10,11,12,13,14]] 14 (by kernel_rfl) ?_; dsimp only [List.take, List.drop]) | ((with_reducible refine And.intro ?_ ?_); first | (with_reducible rfl) | assumption | (simp only [go_sem]; done)))
    refine ret_same hq _ (.inl rfl) ?_
    simp [go_sem, btw, hL, hkn]
  have c2 : ((o.length : Int) ≤ k) = False := eq_false hkn
  obtain ⟨a, rfl⟩ := Int.eq_ofNat_of_zero_le (show 0 ≤ i by omega)
  obtain ⟨b, rfl⟩ := Int.eq_ofNat_of_zero_le (show 0 ≤ k by omega)
  have ha : a < o.length := by omega
  have hbk : b < o.length := by omega
  have at1 : At H br 0 (o.flatMap i64C) ⟨o.flatMap i64C, t3, k3⟩ := ⟨hrow, l3, by unfold seg; rw [List.drop_zero, List.take_length]⟩
  have e1 := at1.i64 ha
  have e2 := at1.i64 hbk
  simp only [Nat.zero_add] at e1 e2
  have o1 := ho.2.1 _ (List.getElem_mem ha)
  have o2 := ho.2.1 _ (List.getElem_mem hbk)
  have hbt : btw (inO l o) (a : Int) (b : Int) = jumpF (pg l (o[a]).toNat) (pg l (o[b]).toNat) := by
    unfold btw
    rw [if_neg (by rw [hL]; omega), Int.toNat_natCast, Int.toNat_natCast, pg_at (show a < (inO l o).length by omega), pg_at (show b < (inO l o).length by omega)]
    simp [inO]
  rw [hbt] at hq
  generalize o[a] = x at e1 o1 hq
  generalize o[b] = y at e2 o2 hq
  obtain ⟨i0, off, cc, bl, rfl, hat, hf⟩ := h.full (by omega)
  have hfr := Flat.flen (flat_rowL .u16 12) l
  rw [hfr] at hf
  have p1 := hat.elem (rowL .u16 12) 12 hz12 (show x.toNat < l.length by omega)
  have p2 := hat.elem (rowL .u16 12) 12 hz12 (show y.toNat < l.length by omega)
  rw [← pg_at (show x.toNat < l.length by omega)] at p1
  rw [← pg_at (show y.toNat < l.length by omega)] at p2
  repeat (first | (simp only [go_sem, Int.reduceLT, Int.reduceLE, Int.reduceEq, Int.reduceToNat, c1, c2, hb, hc, hrow, l1, l2, l3, hsol, hfl, e1, e2, hat.get, hat.live, p1, p2]) | ((with_reducible refine And.intro ?_ ?_); omega) | ((with_reducible refine isSK ?_); first | (refine call_ret (jump (pg_12 h12 _) (pg_12 h12 _)) (by simp only [go_sem, Int.reduceLT, Int.reduceLE, Int.reduceEq, Int.reduceToNat, c1, c2, hb, hc, hrow, l1, l2, l3, hsol, hfl, e1, e2, hat.get, hat.live, p1, p2]) ?_)) | ((with_reducible refine isMC ?_); first | (refine mcall_ret (jump (pg_12 h12 _) (pg_12 h12 _)) (by simp only [go_sem, Int.reduceLT, Int.reduceLE, Int.reduceEq, Int.reduceToNat, c1, c2, hb, hc, hrow, l1, l2, l3, hsol, hfl, e1, e2, hat.get, hat.live, p1, p2]) (by simp only [go_sem, Int.reduceLT, Int.reduceLE, Int.reduceEq, Int.reduceToNat, c1, c2, hb, hc, hrow, l1, l2, l3, hsol, hfl, e1, e2, hat.get, hat.live, p1, p2]) ?_)) | ((with_reducible refine isWKr (id := 3) ?_); refine WK_drawUp 3 [[],[],[],[1,2],[1,2,3],[0,1,2,3,4],[0,1,2,3,4,5],[],[],[],[8,9],[8,9,10],[7,8,9,10,11],[7,8,9,10,11,12],[0,1,2,3,4,5,6,7,8,9,10,11,12,13],[0,1,2,3,4,5,6,7,8,9,10,11,12,13,14]] 14 (by kernel_rfl) ?_; dsimp only [List.take, List.drop]) | ((with_reducible refine And.intro ?_ ?_); first | (with_reducible rfl) | assumption | (simp only [go_sem]; done)))
  refine ret_same hq _ (.inl rfl) ?_
  simp [go_sem]
end Go.Proofs.Ytjkkallcgplgmaa

