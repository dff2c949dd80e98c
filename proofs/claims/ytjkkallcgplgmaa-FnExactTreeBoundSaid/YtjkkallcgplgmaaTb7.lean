/- Contracts of functions of the translated program, by the walk. -/
import Derived.Test.YtjkkallcgplgmaaTb6
import Derived.Test.YtjkkallcgplgmaaLD
set_option linter.unusedVariables false
set_option linter.unusedSimpArgs false
set_option maxRecDepth 8000
set_option maxHeartbeats 4000000
namespace Go.Proofs.Ytjkkallcgplgmaa
open Go Go.Sx
/-- The nearest ones, when one more is in. -/
def nearU (l : List (Nat → Int)) (near : Nat → Int) (m : Nat) (L : List Nat) : Nat → Int := fun j => if j ∈ L then min (near j) (jmp l m j) else near j
theorem nearU_succ {l : List (Nat → Int)} {near : Nat → Int} {m : Nat} {L : List Nat} (hn : L.Nodup) {c : Nat} (hc : c < L.length) : upd (nearU l near m (L.take c)) L[c] (min (nearU l near m (L.take c) L[c]) (jmp l m L[c])) = nearU l near m (L.take (c + 1)) ∧ nearU l near m (L.take c) L[c] = near L[c] := by
  have hni : L[c] ∉ L.take c := by
    intro e
    obtain ⟨k, hk, hk2⟩ := List.mem_iff_getElem.1 e
    rw [List.getElem_take] at hk2
    have := (List.getElem_inj hn).1 hk2
    rw [List.length_take] at hk
    omega
  have h2 : nearU l near m (L.take c) L[c] = near L[c] := if_neg hni
  have hms : ∀ j, j ∈ L.take (c + 1) ↔ j ∈ L.take c ∨ j = L[c] := fun j => by
    rw [List.take_succ_eq_append_getElem hc, List.mem_append, List.mem_singleton]
  refine ⟨?_, h2⟩
  rw [h2]
  funext j
  unfold upd nearU
  by_cases e : j = L[c]
  · rw [if_pos e, if_pos ((hms j).2 (.inr e)), e]
  · rw [if_neg e]
    by_cases e2 : j ∈ L.take c
    · rw [if_pos e2, if_pos ((hms j).2 (.inl e2))]
    · rw [if_neg e2, if_neg (fun h => ((hms j).1 h).elim e2 e)]
theorem leftL_succ {n : Nat} (h : 1 ≤ n) : leftL (n + 1) = leftL n ++ [n] := by
  unfold leftL
  rw [show n + 1 - 1 = (n - 1) + 1 by omega, List.range_succ, List.map_append, List.map_singleton, show n - 1 + 1 = n by omega]
theorem natI_len (L : List Nat) : (natI L).length = L.length := by simp [natI]
theorem filter_erase : ∀ {L : List Nat} (_ : L.Nodup) {p : Nat} (hp : p < L.length), (L.filter fun i => decide (i ≠ L[p])) = L.eraseIdx p
  | [], _, p, hp => by simp at hp
  | a :: L, hn, 0, _ => by
    rw [List.nodup_cons] at hn
    rw [List.getElem_cons_zero, List.filter_cons_of_neg (by simp), List.eraseIdx_cons_zero, List.filter_eq_self.2]
    intro i hi
    simp only [decide_eq_true_eq]
    intro e; exact hn.1 (e ▸ hi)
  | a :: L, hn, p + 1, hp => by
    rw [List.nodup_cons] at hn
    have hp' : p < L.length := by simpa using hp
    rw [List.getElem_cons_succ, List.filter_cons_of_pos, List.eraseIdx_cons_succ, filter_erase hn.2 hp']
    simp only [decide_eq_true_eq]
    intro e; exact hn.1 (e ▸ List.getElem_mem hp')
theorem erase_filter {L : List Nat} (hn : L.Nodup) {p : Nat} (hp : p < L.length) : (natI L).eraseIdx p = natI (L.filter fun i => decide (i ≠ L[p])) := by
  rw [filter_erase hn hp]
  unfold natI
  rw [List.eraseIdx_eq_take_drop_succ, List.eraseIdx_eq_take_drop_succ, List.map_append, List.map_take, List.map_drop]
theorem implTreeBound_ok {H : List Blk} {v : V} {l : List (Nat → Int)} (h : Rd H v (rowL .u16 12) l) (hok : okB l = true) (hR : ∀ f ∈ l, R16 f) :
    Cal Try.prog 30 [v] H fun u H' => u = .t [.v (.int .i64 (tbV l)), .v (.int .i64 0)] ∧ H' = H := by
  have hsol := h.solid
  have hL := h.lenV (P := Try.prog) slTy27
  have h12 := okB_12 hok hR
  have h40 := (okB_iff.1 hok).1
  refine cal_fn 85 mixed Try.func30 Try.ntmps30 Try.results30 rfl rfl rfl fun hw cx hx hq => ?_
  repeat (first | (simp only [go_sem, Int.reduceLT, Int.reduceLE, Int.reduceEq, Int.reduceToNat, hsol, hL, hok, zerosI]) | ((with_reducible refine And.intro ?_ ?_); omega) | ((with_reducible refine isSK ?_); first | (refine call_ret (validBook h (by omega)) (by simp only [go_sem, Int.reduceLT, Int.reduceLE, Int.reduceEq, Int.reduceToNat, hsol, hL, hok, zerosI]) ?_)) | ((with_reducible refine isMC ?_); first | (refine mcall_ret (validBook h (by omega)) (by simp only [go_sem, Int.reduceLT, Int.reduceLE, Int.reduceEq, Int.reduceToNat, hsol, hL, hok, zerosI]) (by simp only [go_sem, Int.reduceLT, Int.reduceLE, Int.reduceEq, Int.reduceToNat, hsol, hL, hok, zerosI]) ?_)) | ((with_reducible refine isWKr (id := 3) ?_); refine WK_drawAt 3 [[],[0],[0,1],[],[3],[0,1,2,3,4]] (by kernel_rfl) ?_) | ((with_reducible refine isWKr (id := 7) ?_); refine WK_drawAt 7 [[],[],[],[2],[2,3],[],[],[5,6],[5,6,7],[2,3,4,5,6,7,8],[0,1,2,3,4,5,6,7,8,9],[0,1,2,3,4,5,6,7,8,9,10]] (by kernel_rfl) ?_) | ((with_reducible refine isWKr (id := 21) ?_); refine WK_drawAt 21 [[],[],[],[],[2,3],[2,3,4],[],[],[6,7],[6,7,8],[],[],[10,11],[10,11,12],[6,7,8,9,10,11,12,13],[2,3,4,5,6,7,8,9,10,11,12,13,14],[0,1,2,3,4,5,6,7,8,9,10,11,12,13,14,15],[0,1,2,3,4,5,6,7,8,9,10,11,12,13,14,15,16]] (by kernel_rfl) ?_) | ((with_reducible refine And.intro ?_ ?_); first | (with_reducible rfl) | assumption | (simp only [go_sem]; done)))
  refine WK_for (fun i : Nat => ⟨[v, .any, .any, .any, .v (.int .i64 0), .p (H.length + 1) 0, .any, .any, .any, .any, .any, .any, .any, .any, .any, .any, .any, .any, .any, .v (.int .i64 l.length), .v (.int .i64 i)] ++ junk 65, H ++ [⟨rowL .i64 l.length (pfx (fun j => jmp l 0 j) (fun _ => 0) i), 2, .fix⟩, ⟨[.s H.length 0 l.length (.k l.length)], 41, .fix⟩]⟩) (fun i => i ≤ l.length) (fun i => l.length - i) 0 (Weak.slots ?_) ?_ fun i hi => ?_
  · simp [go_sem, pfx_zero]
  · simp
  rcases Int.lt_or_le (i : Int) l.length with hc | hc
  · have hci : ((i : Int) < (l.length : Int)) = True := eq_true hc
    have hwr := wr_pfx .i64 (n := i) (m := l.length) (fun j => jmp l 0 j) (fun _ => 0) (by omega) (x := jumpF (pg l 0) (pg l i)) rfl
    obtain ⟨i0, off, cc, bl, rfl, hat, hf⟩ := h.full (by omega)
    have hfr := Flat.flen (flat_rowL .u16 12) l
    rw [hfr] at hf
    have p1 := hat.elem (rowL .u16 12) 12 hz12 (show 0 < l.length by omega)
    have p2 := hat.elem (rowL .u16 12) 12 hz12 (show i < l.length by omega)
    rw [← pg_at (show 0 < l.length by omega)] at p1
    rw [← pg_at (show i < l.length by omega)] at p2
    simp only [Nat.zero_mul, Nat.add_zero] at p1
    repeat (first | (simp only [go_sem, Int.reduceLT, Int.reduceLE, Int.reduceEq, Int.reduceToNat, hsol, hci, (get_app hat.get), hat.live, p1, p2, hwr]) | ((with_reducible refine And.intro ?_ ?_); omega) | ((with_reducible refine isSK ?_); first | (refine call_ret (jump (pg_12 h12 _) (pg_12 h12 _)) (by simp only [go_sem, Int.reduceLT, Int.reduceLE, Int.reduceEq, Int.reduceToNat, hsol, hci, (get_app hat.get), hat.live, p1, p2, hwr]) ?_)) | ((with_reducible refine isMC ?_); first | (refine mcall_ret (jump (pg_12 h12 _) (pg_12 h12 _)) (by simp only [go_sem, Int.reduceLT, Int.reduceLE, Int.reduceEq, Int.reduceToNat, hsol, hci, (get_app hat.get), hat.live, p1, p2, hwr]) (by simp only [go_sem, Int.reduceLT, Int.reduceLE, Int.reduceEq, Int.reduceToNat, hsol, hci, (get_app hat.get), hat.live, p1, p2, hwr]) ?_)) | ((with_reducible refine isWKr (id := 3) ?_); refine WK_drawAt 3 [[],[0],[0,1],[],[3],[0,1,2,3,4]] (by kernel_rfl) ?_) | ((with_reducible refine isWKr (id := 7) ?_); refine WK_drawAt 7 [[],[],[],[2],[2,3],[],[],[5,6],[5,6,7],[2,3,4,5,6,7,8],[0,1,2,3,4,5,6,7,8,9],[0,1,2,3,4,5,6,7,8,9,10]] (by kernel_rfl) ?_) | ((with_reducible refine isWKr (id := 21) ?_); refine WK_drawAt 21 [[],[],[],[],[2,3],[2,3,4],[],[],[6,7],[6,7,8],[],[],[10,11],[10,11,12],[6,7,8,9,10,11,12,13],[2,3,4,5,6,7,8,9,10,11,12,13,14],[0,1,2,3,4,5,6,7,8,9,10,11,12,13,14,15],[0,1,2,3,4,5,6,7,8,9,10,11,12,13,14,15,16]] (by kernel_rfl) ?_) | ((with_reducible refine And.intro ?_ ?_); first | (with_reducible rfl) | assumption | (simp only [go_sem]; done)))
    refine EK_again (i + 1) (Weak.slots ?_) (by omega) (by omega)
    simp [go_sem]
  have : i = l.length := by omega
  subst this
  have hci : ((l.length : Int) < (l.length : Int)) = False := eq_false (by omega)
  rw [pfx_all]
  repeat (first | (simp only [go_sem, Int.reduceLT, Int.reduceLE, Int.reduceEq, Int.reduceToNat, hci]) | ((with_reducible refine And.intro ?_ ?_); omega) | ((with_reducible refine isWKr (id := 3) ?_); refine WK_drawAt 3 [[],[0],[0,1],[],[3],[0,1,2,3,4]] (by kernel_rfl) ?_) | ((with_reducible refine isWKr (id := 7) ?_); refine WK_drawAt 7 [[],[],[],[2],[2,3],[],[],[5,6],[5,6,7],[2,3,4,5,6,7,8],[0,1,2,3,4,5,6,7,8,9],[0,1,2,3,4,5,6,7,8,9,10]] (by kernel_rfl) ?_) | ((with_reducible refine isWKr (id := 21) ?_); refine WK_drawAt 21 [[],[],[],[],[2,3],[2,3,4],[],[],[6,7],[6,7,8],[],[],[10,11],[10,11,12],[6,7,8,9,10,11,12,13],[2,3,4,5,6,7,8,9,10,11,12,13,14],[0,1,2,3,4,5,6,7,8,9,10,11,12,13,14,15],[0,1,2,3,4,5,6,7,8,9,10,11,12,13,14,15,16]] (by kernel_rfl) ?_) | ((with_reducible refine And.intro ?_ ?_); first | (with_reducible rfl) | assumption | (simp only [go_sem]; done)))
  refine WK_for (fun i : Nat => ⟨[v, .any, .any, .any, .v (.int .i64 0), .p (H.length + 1) 0, .any, .s (H.length + 2) 0 (leftL i).length (.u 0), .v (.int .i64 i)] ++ junk 77, H ++ [⟨rowL .i64 l.length (fun j => jmp l 0 j), 2, .fix⟩, ⟨[.s H.length 0 l.length (.k l.length)], 41, .fix⟩, ⟨(natI (leftL i)).flatMap i64C, 3, .own 1⟩]⟩) (fun i => 1 ≤ i ∧ (i = 1 ∨ i ≤ l.length)) (fun i => l.length - i) 1 (Weak.slots ?_) ?_ fun i hi => ?_
  · simp [go_sem, leftL, natI]
  · simp
  have hli := leftL_len i
  have hnl : ((natI (leftL i)).flatMap i64C).length = (leftL i).length := by rw [flat_i64.flen, Nat.mul_one, natI_len]
  have hn1 : norefH (H.length + 2) H := norefH_wf hw (by omega)
  have hfg := h.forget (n := H.length + 2) (by omega)
  have hn2 : norefs (H.length + 2) ((natI (leftL i)).flatMap i64C) = true := flat_i64.norefs _ _
  rcases Int.lt_or_le (i : Int) l.length with hc | hc
  · have hci : ((i : Int) < (l.length : Int)) = True := eq_true hc
    repeat (first | (simp only [go_sem, Int.reduceLT, Int.reduceLE, Int.reduceEq, Int.reduceToNat, hsol, hL, hci, hnl, hn1, hn2, hx, hfg]) | ((with_reducible refine And.intro ?_ ?_); omega) | ((with_reducible refine isWKr (id := 3) ?_); refine WK_drawAt 3 [[],[0],[0,1],[],[3],[0,1,2,3,4]] (by kernel_rfl) ?_) | ((with_reducible refine isWKr (id := 7) ?_); refine WK_drawAt 7 [[],[],[],[2],[2,3],[],[],[5,6],[5,6,7],[2,3,4,5,6,7,8],[0,1,2,3,4,5,6,7,8,9],[0,1,2,3,4,5,6,7,8,9,10]] (by kernel_rfl) ?_) | ((with_reducible refine isWKr (id := 21) ?_); refine WK_drawAt 21 [[],[],[],[],[2,3],[2,3,4],[],[],[6,7],[6,7,8],[],[],[10,11],[10,11,12],[6,7,8,9,10,11,12,13],[2,3,4,5,6,7,8,9,10,11,12,13,14],[0,1,2,3,4,5,6,7,8,9,10,11,12,13,14,15],[0,1,2,3,4,5,6,7,8,9,10,11,12,13,14,15,16]] (by kernel_rfl) ?_) | ((with_reducible refine And.intro ?_ ?_); first | (with_reducible rfl) | assumption | (simp only [go_sem]; done)))
    refine EK_again (i + 1) ?_ (by omega) (by omega)
    have hw1 : lts H.length ((natI (leftL i)).flatMap i64C ++ [V.v (.int .i64 (i : Int))]) = True := by
      have := flat_i64.lts H.length (natI (leftL i) ++ [(i : Int)])
      rw [List.flatMap_append, List.flatMap_singleton] at this
      exact this
    have e1 : natI (leftL (i + 1)) = natI (leftL i) ++ [(i : Int)] := by rw [leftL_succ hi.1]; simp [natI]
    rw [e1, List.flatMap_append, List.flatMap_singleton, leftL_succ hi.1, List.length_append, List.length_singleton]
    have hvl := h.renC [some 0, some 1, some 2]
    exact Weak.pickC [some 0, some 1, some 2] (by simp [go_sem, hw1, i64C]) (by decide) (by simp [hx]) hw (by simp [go_sem, hvl] <;> omega)
  have hlf : leftL i = leftL l.length := by
    unfold leftL
    rw [show i - 1 = l.length - 1 by omega]
  have hci : ((i : Int) < (l.length : Int)) = False := eq_false (by omega)
  rw [hlf]
  repeat (first | (simp only [go_sem, Int.reduceLT, Int.reduceLE, Int.reduceEq, Int.reduceToNat, hsol, hL, hci]) | ((with_reducible refine And.intro ?_ ?_); omega) | ((with_reducible refine isWKr (id := 3) ?_); refine WK_drawAt 3 [[],[0],[0,1],[],[3],[0,1,2,3,4]] (by kernel_rfl) ?_) | ((with_reducible refine isWKr (id := 7) ?_); refine WK_drawAt 7 [[],[],[],[2],[2,3],[],[],[5,6],[5,6,7],[2,3,4,5,6,7,8],[0,1,2,3,4,5,6,7,8,9],[0,1,2,3,4,5,6,7,8,9,10]] (by kernel_rfl) ?_) | ((with_reducible refine isWKr (id := 21) ?_); refine WK_drawAt 21 [[],[],[],[],[2,3],[2,3,4],[],[],[6,7],[6,7,8],[],[],[10,11],[10,11,12],[6,7,8,9,10,11,12,13],[2,3,4,5,6,7,8,9,10,11,12,13,14],[0,1,2,3,4,5,6,7,8,9,10,11,12,13,14,15],[0,1,2,3,4,5,6,7,8,9,10,11,12,13,14,15,16]] (by kernel_rfl) ?_) | ((with_reducible refine And.intro ?_ ?_); first | (with_reducible rfl) | assumption | (simp only [go_sem]; done)))
  refine WK_for (fun q : List Nat × (Nat → Int) × Int × List Int => ⟨[v, .any, .any, .any, .v (.int .i64 q.2.2.1), .p (H.length + 1) 0, .any, .s (H.length + 2) 0 q.1.length (.i 0)] ++ junk 78, H ++ [⟨rowL .i64 l.length q.2.1, 2, .fix⟩, ⟨[.s H.length 0 l.length (.k l.length)], 41, .fix⟩, ⟨(natI q.1 ++ q.2.2.2).flatMap i64C, 3, .own 1⟩]⟩) (fun q => q.1.Nodup ∧ (∀ j ∈ q.1, j < l.length ∧ 0 ≤ q.2.1 j ∧ q.2.1 j ≤ 144) ∧ q.2.2.1 + tbN l q.1.length q.1 q.2.1 = tbV l ∧ 0 ≤ q.2.2.1 ∧ q.2.2.1 + 144 * q.1.length ≤ 144 * 40) (fun q => q.1.length) (leftL l.length, (fun j => jmp l 0 j), 0, []) ?_ ?_ fun q hq0 => ?_
  · have hvl := h.renC [some 0, some 1, some 2]
    have hw1 := flat_i64.lts H.length (natI (leftL l.length))
    exact Weak.pickC [some 0, some 1, some 2] (by simp [go_sem, hw1, List.append_nil]) (by decide) (by simp [hx]) hw (by simp [go_sem, hvl] <;> omega)
  · have hll := leftL_len l.length
    refine ⟨?_, fun j hj => ?_, ?_, by simp, by show (0 : Int) + 144 * (((leftL l.length).length : Nat) : Int) ≤ 144 * 40; omega⟩
    · simp only [leftL, List.Nodup, List.pairwise_map]
      exact (List.nodup_range (n := l.length - 1)).imp fun h e => h (by omega)
    · have := jmp_le l 0 j
      simp only [leftL, List.mem_map, List.mem_range] at hj
      obtain ⟨k, hk, rfl⟩ := hj
      exact ⟨by omega, this⟩
    · simp only [Int.zero_add, hll]; rfl
  obtain ⟨L, near, s, Z⟩ := q
  obtain ⟨hnd, hLm, hs, hs0, hs1⟩ := hq0
  simp only at hnd hLm hs hs0 hs1 ⊢
  cases L with
  | nil =>
    have hse : s = tbV l := by rw [← hs]; simp [tbN]
    have hz0 : ((0 : Int) < ((0 : Nat) : Int)) = False := eq_false (by omega)
    repeat (first | (simp only [go_sem, Int.reduceLT, Int.reduceLE, Int.reduceEq, Int.reduceToNat, hz0]) | ((with_reducible refine And.intro ?_ ?_); omega) | ((with_reducible refine isWKr (id := 3) ?_); refine WK_drawAt 3 [[],[0],[0,1],[],[3],[0,1,2,3,4]] (by kernel_rfl) ?_) | ((with_reducible refine isWKr (id := 7) ?_); refine WK_drawAt 7 [[],[],[],[2],[2,3],[],[],[5,6],[5,6,7],[2,3,4,5,6,7,8],[0,1,2,3,4,5,6,7,8,9],[0,1,2,3,4,5,6,7,8,9,10]] (by kernel_rfl) ?_) | ((with_reducible refine isWKr (id := 21) ?_); refine WK_drawAt 21 [[],[],[],[],[2,3],[2,3,4],[],[],[6,7],[6,7,8],[],[],[10,11],[10,11,12],[6,7,8,9,10,11,12,13],[2,3,4,5,6,7,8,9,10,11,12,13,14],[0,1,2,3,4,5,6,7,8,9,10,11,12,13,14,15],[0,1,2,3,4,5,6,7,8,9,10,11,12,13,14,15,16]] (by kernel_rfl) ?_) | ((with_reducible refine And.intro ?_ ?_); first | (with_reducible rfl) | assumption | (simp only [go_sem]; done)))
    refine ret_cut hq hw _ (.inl rfl) ?_
    simp [go_sem, hse]
  | cons a R =>
    have hmem : fmin near a R ∈ a :: R := by
      rcases fmin_mem near R a with e | e
      · rw [e]; exact List.mem_cons_self ..
      · exact List.mem_cons_of_mem _ e
    obtain ⟨p, hp, hpm⟩ := List.mem_iff_getElem.1 hmem
    have hlp : ((0 : Int) < ((R.length + 1 : Nat) : Int)) = True := eq_true (by omega)
    have hgt : 0 < (a :: R).length := by simp
    have htb : tbN l (a :: R).length (a :: R) near = near (fmin near a R) + tbN l R.length ((a :: R).filter fun i => decide (i ≠ fmin near a R)) (fun i => min (near i) (jmp l (fmin near a R) i)) := rfl
    rw [htb] at hs
    have hfl := filter_len hmem hnd
    have hfd : ((a :: R).filter fun i => decide (i ≠ fmin near a R)).Nodup := hnd.filter _
    have hfm : ∀ j, j ∈ ((a :: R).filter fun i => decide (i ≠ fmin near a R)) → j ∈ a :: R := fun j hj => (List.mem_filter.1 hj).1
    have hef := erase_filter hnd hp
    rw [hpm] at hef
    have hmn := hLm _ hmem
    have hRl : R.length + 1 ≤ 40 := by have : (a :: R).length = R.length + 1 := rfl; omega
    have hrd : Rd (H ++ [⟨rowL .i64 l.length near, 2, .fix⟩, ⟨[.s H.length 0 l.length (.k l.length)], 41, .fix⟩, ⟨(natI (a :: R) ++ Z).flatMap i64C, 3, .own 1⟩]) (.s (H.length + 2) 0 (R.length + 1) (.i 0)) i64C (natI (a :: R)) := Rd.fill 2 rfl rfl (by simp [natI])
    have hdel := deleteFunc (H := H ++ [⟨rowL .i64 l.length near, 2, .fix⟩, ⟨[.s H.length 0 l.length (.k l.length)], 41, .fix⟩, ⟨(natI (a :: R) ++ Z).flatMap i64C, 3, .own 1⟩, ⟨[.v (.int .i64 (fmin near a R))], 3, .fix⟩]) (bi := H.length + 2) (L := natI (a :: R)) (Z := Z) (p := p) (m := fmin near a R) (fn := 79) (cs := [.p (H.length + 3) 0]) (by first | exact (Go.Sx.get_at0 _ _).trans rfl | exact (Go.Sx.get_at _ _ 1).trans rfl | exact (Go.Sx.get_at _ _ 2).trans rfl | exact (Go.Sx.get_at _ _ 3).trans rfl | exact (Go.Sx.get_at _ _ 4).trans rfl | exact (Go.Sx.get_at _ _ 5).trans rfl | exact (Go.Sx.get_at _ _ 6).trans rfl | exact (Go.Sx.get_at _ _ 7).trans rfl | exact (Go.Sx.get_at _ _ 8).trans rfl | exact (Go.Sx.get_at _ _ 9).trans rfl | exact (Go.Sx.get_at _ _ 10).trans rfl | exact (Go.Sx.get_at _ _ 11).trans rfl | exact (Go.Sx.get_at _ _ 12).trans rfl | exact (Go.Sx.get_at _ _ 13).trans rfl | exact (Go.Sx.get_at _ _ 14).trans rfl | exact (Go.Sx.get_at _ _ 15).trans rfl) (by rw [natI_len]; exact hp) (by simp only [natI, List.getElem_map, hpm]) (by unfold natI; rw [List.Nodup, List.pairwise_map]; exact hnd.imp fun h e => h (by omega)) (by rw [natI_len]; exact (by omega : R.length + 1 ≤ 1000)) rfl (fun x b X => treeBound2 (k2 := .fix) (t2 := 3) (by simp [go_sem]) rfl)
    rw [natI_len, hef] at hdel
    generalize ((a :: R).filter fun i => decide (i ≠ fmin near a R)) = R' at hfl hfd hfm hs hdel
    simp only [set_at, List.set_cons_succ, List.set_cons_zero, List.length_cons, Nat.add_sub_cancel] at hdel hfl
    repeat (first | (simp only [go_sem, Int.reduceLT, Int.reduceLE, Int.reduceEq, Int.reduceToNat, hlp, rowL_cel _ _ _ hmn.1]) | ((with_reducible refine And.intro ?_ ?_); omega) | ((with_reducible refine isSK ?_); first | (refine call_ret (hdel) (by simp only [go_sem, Int.reduceLT, Int.reduceLE, Int.reduceEq, Int.reduceToNat, hlp, rowL_cel _ _ _ hmn.1]) ?_) | (refine call_ret (minFunc (a := a) (r := R) (near := near) hrd (by omega) rfl fun x y hx1 hy1 => treeBound1 (c := .k l.length) (near := near) (by first | exact (Go.Sx.get_at0 _ _).trans rfl | exact (Go.Sx.get_at _ _ 1).trans rfl | exact (Go.Sx.get_at _ _ 2).trans rfl | exact (Go.Sx.get_at _ _ 3).trans rfl | exact (Go.Sx.get_at _ _ 4).trans rfl | exact (Go.Sx.get_at _ _ 5).trans rfl | exact (Go.Sx.get_at _ _ 6).trans rfl | exact (Go.Sx.get_at _ _ 7).trans rfl | exact (Go.Sx.get_at _ _ 8).trans rfl | exact (Go.Sx.get_at _ _ 9).trans rfl | exact (Go.Sx.get_at _ _ 10).trans rfl | exact (Go.Sx.get_at _ _ 11).trans rfl | exact (Go.Sx.get_at _ _ 12).trans rfl | exact (Go.Sx.get_at _ _ 13).trans rfl | exact (Go.Sx.get_at _ _ 14).trans rfl | exact (Go.Sx.get_at _ _ 15).trans rfl) rfl (by first | exact (Go.Sx.get_at0 _ _).trans rfl | exact (Go.Sx.get_at _ _ 1).trans rfl | exact (Go.Sx.get_at _ _ 2).trans rfl | exact (Go.Sx.get_at _ _ 3).trans rfl | exact (Go.Sx.get_at _ _ 4).trans rfl | exact (Go.Sx.get_at _ _ 5).trans rfl | exact (Go.Sx.get_at _ _ 6).trans rfl | exact (Go.Sx.get_at _ _ 7).trans rfl | exact (Go.Sx.get_at _ _ 8).trans rfl | exact (Go.Sx.get_at _ _ 9).trans rfl | exact (Go.Sx.get_at _ _ 10).trans rfl | exact (Go.Sx.get_at _ _ 11).trans rfl | exact (Go.Sx.get_at _ _ 12).trans rfl | exact (Go.Sx.get_at _ _ 13).trans rfl | exact (Go.Sx.get_at _ _ 14).trans rfl | exact (Go.Sx.get_at _ _ 15).trans rfl) rfl (hLm x hx1).1 (hLm y hy1).1) (by simp only [go_sem, Int.reduceLT, Int.reduceLE, Int.reduceEq, Int.reduceToNat, hlp, rowL_cel _ _ _ hmn.1]) ?_)) | ((with_reducible refine isMC ?_); first | (refine mcall_ret (hdel) (by simp only [go_sem, Int.reduceLT, Int.reduceLE, Int.reduceEq, Int.reduceToNat, hlp, rowL_cel _ _ _ hmn.1]) (by simp only [go_sem, Int.reduceLT, Int.reduceLE, Int.reduceEq, Int.reduceToNat, hlp, rowL_cel _ _ _ hmn.1]) ?_) | (refine mcall_ret (minFunc (a := a) (r := R) (near := near) hrd (by omega) rfl fun x y hx1 hy1 => treeBound1 (c := .k l.length) (near := near) (by first | exact (Go.Sx.get_at0 _ _).trans rfl | exact (Go.Sx.get_at _ _ 1).trans rfl | exact (Go.Sx.get_at _ _ 2).trans rfl | exact (Go.Sx.get_at _ _ 3).trans rfl | exact (Go.Sx.get_at _ _ 4).trans rfl | exact (Go.Sx.get_at _ _ 5).trans rfl | exact (Go.Sx.get_at _ _ 6).trans rfl | exact (Go.Sx.get_at _ _ 7).trans rfl | exact (Go.Sx.get_at _ _ 8).trans rfl | exact (Go.Sx.get_at _ _ 9).trans rfl | exact (Go.Sx.get_at _ _ 10).trans rfl | exact (Go.Sx.get_at _ _ 11).trans rfl | exact (Go.Sx.get_at _ _ 12).trans rfl | exact (Go.Sx.get_at _ _ 13).trans rfl | exact (Go.Sx.get_at _ _ 14).trans rfl | exact (Go.Sx.get_at _ _ 15).trans rfl) rfl (by first | exact (Go.Sx.get_at0 _ _).trans rfl | exact (Go.Sx.get_at _ _ 1).trans rfl | exact (Go.Sx.get_at _ _ 2).trans rfl | exact (Go.Sx.get_at _ _ 3).trans rfl | exact (Go.Sx.get_at _ _ 4).trans rfl | exact (Go.Sx.get_at _ _ 5).trans rfl | exact (Go.Sx.get_at _ _ 6).trans rfl | exact (Go.Sx.get_at _ _ 7).trans rfl | exact (Go.Sx.get_at _ _ 8).trans rfl | exact (Go.Sx.get_at _ _ 9).trans rfl | exact (Go.Sx.get_at _ _ 10).trans rfl | exact (Go.Sx.get_at _ _ 11).trans rfl | exact (Go.Sx.get_at _ _ 12).trans rfl | exact (Go.Sx.get_at _ _ 13).trans rfl | exact (Go.Sx.get_at _ _ 14).trans rfl | exact (Go.Sx.get_at _ _ 15).trans rfl) rfl (hLm x hx1).1 (hLm y hy1).1) (by simp only [go_sem, Int.reduceLT, Int.reduceLE, Int.reduceEq, Int.reduceToNat, hlp, rowL_cel _ _ _ hmn.1]) (by simp only [go_sem, Int.reduceLT, Int.reduceLE, Int.reduceEq, Int.reduceToNat, hlp, rowL_cel _ _ _ hmn.1]) ?_)) | ((with_reducible refine isWKr (id := 3) ?_); refine WK_drawAt 3 [[],[0],[0,1],[],[3],[0,1,2,3,4]] (by kernel_rfl) ?_) | ((with_reducible refine isWKr (id := 7) ?_); refine WK_drawAt 7 [[],[],[],[2],[2,3],[],[],[5,6],[5,6,7],[2,3,4,5,6,7,8],[0,1,2,3,4,5,6,7,8,9],[0,1,2,3,4,5,6,7,8,9,10]] (by kernel_rfl) ?_) | ((with_reducible refine isWKr (id := 21) ?_); refine WK_drawAt 21 [[],[],[],[],[2,3],[2,3,4],[],[],[6,7],[6,7,8],[],[],[10,11],[10,11,12],[6,7,8,9,10,11,12,13],[2,3,4,5,6,7,8,9,10,11,12,13,14],[0,1,2,3,4,5,6,7,8,9,10,11,12,13,14,15],[0,1,2,3,4,5,6,7,8,9,10,11,12,13,14,15,16]] (by kernel_rfl) ?_) | ((with_reducible refine And.intro ?_ ?_); first | (with_reducible rfl) | assumption | (simp only [go_sem]; done)))
    generalize fmin near a R = m at hmem hs hmn
    refine WK_for (fun c : Nat => ⟨[v, .any, .any, .any, .v (.int .i64 (s + near m)), .p (H.length + 1) 0, .any, .s (H.length + 2) 0 R.length (.i 0), .any, .p (H.length + 3) 0, .any, .any, .any, .any, .any, .any, .any, .any, .any, .any, .any, .any, .any, .any, .any, .any, .any, .any, .any, .any, .any, .any, .any, .any, .any, .any, .any, .any, .any, .any, .any, .any, .any, .any, .any, .any, .any, .any, .any, .any, .any, .any, .any, .any, .any, .any, .any, .any, .any, .any, .any, .s (H.length + 2) 0 R.length (.i 0), .v (.int .i64 R.length), .v (.int .i64 c)] ++ junk 22, H ++ [⟨rowL .i64 l.length (nearU l near m (R'.take c)), 2, .fix⟩, ⟨[.s H.length 0 l.length (.k l.length)], 41, .fix⟩, ⟨(natI R' ++ 0 :: Z).flatMap i64C, 3, .own 1⟩, ⟨[.v (.int .i64 m)], 3, .fix⟩]⟩) (fun c => c ≤ R.length) (fun c => R.length - c) 0 (Weak.slots ?_) ?_ fun c hcc => ?_
    · simp [go_sem, nearU]
    · simp
    rcases Int.lt_or_le (c : Int) R.length with hc2 | hc2
    · have hj : c < R'.length := by omega
      have hcc2 : ((c : Int) < (R.length : Int)) = True := eq_true hc2
      have hlc : c < (natI R' ++ 0 :: Z).length := by rw [List.length_append, natI_len]; omega
      have hce := (At.mk0 (H := H) (L := []) (cs := (natI R' ++ 0 :: Z).flatMap i64C) (t := 3) (k := .own 1) rfl).i64 (j := c) hlc
      have hx2 : (natI R' ++ 0 :: Z)[c]'hlc = (R'[c] : Int) := by
        rw [List.getElem_append_left (by rw [natI_len]; omega)]
        simp [natI]
      rw [hx2] at hce
      simp only [Nat.zero_add] at hce
      have hfl2 : ((natI R' ++ 0 :: Z).flatMap i64C).length = R.length + (Z.length + 1) := by rw [flat_i64.flen, Nat.mul_one, List.length_append, natI_len, List.length_cons, hfl]
      have hns := nearU_succ (l := l) (near := near) (m := m) hfd hj
      have hxm := hLm _ (hfm _ (List.getElem_mem hj))
      generalize R'[c] = x at hce hns hxm
      have hwr := rowL_wr .i64 l.length (nearU l near m (R'.take c)) hxm.1 (min (nearU l near m (R'.take c) x) (jmp l m x))
      rw [hns.1] at hwr
      have hrc := rowL_cel .i64 l.length (nearU l near m (R'.take c)) hxm.1
      rw [hns.2] at hwr hrc
      obtain ⟨i0, off, cc, bl, rfl, hat, hf⟩ := h.full (by omega)
      have hfr := Flat.flen (flat_rowL .u16 12) l
      rw [hfr] at hf
      have p1 := hat.elem (rowL .u16 12) 12 hz12 hmn.1
      have p2 := hat.elem (rowL .u16 12) 12 hz12 hxm.1
      rw [← pg_at hmn.1] at p1
      rw [← pg_at hxm.1] at p2
      have hjm : jumpF (pg l m) (pg l x) = jmp l m x := rfl
      have hmn2 : (if jmp l m x < near x then jmp l m x else near x) = min (near x) (jmp l m x) := by split <;> omega
      repeat (first | (simp only [go_sem, Int.reduceLT, Int.reduceLE, Int.reduceEq, Int.reduceToNat, hsol, hmn2, hcc2, (get_app hat.get), hat.live, p1, p2, hjm, hwr, hrc, hce, hfl2, Int.toNat_natCast]) | ((with_reducible refine And.intro ?_ ?_); omega) | ((with_reducible refine isSK ?_); first | (refine call_ret (jump (pg_12 h12 _) (pg_12 h12 _)) (by simp only [go_sem, Int.reduceLT, Int.reduceLE, Int.reduceEq, Int.reduceToNat, hsol, hmn2, hcc2, (get_app hat.get), hat.live, p1, p2, hjm, hwr, hrc, hce, hfl2, Int.toNat_natCast]) ?_)) | ((with_reducible refine isMC ?_); first | (refine mcall_ret (jump (pg_12 h12 _) (pg_12 h12 _)) (by simp only [go_sem, Int.reduceLT, Int.reduceLE, Int.reduceEq, Int.reduceToNat, hsol, hmn2, hcc2, (get_app hat.get), hat.live, p1, p2, hjm, hwr, hrc, hce, hfl2, Int.toNat_natCast]) (by simp only [go_sem, Int.reduceLT, Int.reduceLE, Int.reduceEq, Int.reduceToNat, hsol, hmn2, hcc2, (get_app hat.get), hat.live, p1, p2, hjm, hwr, hrc, hce, hfl2, Int.toNat_natCast]) ?_)) | ((with_reducible refine isWKr (id := 3) ?_); refine WK_drawAt 3 [[],[0],[0,1],[],[3],[0,1,2,3,4]] (by kernel_rfl) ?_) | ((with_reducible refine isWKr (id := 7) ?_); refine WK_drawAt 7 [[],[],[],[2],[2,3],[],[],[5,6],[5,6,7],[2,3,4,5,6,7,8],[0,1,2,3,4,5,6,7,8,9],[0,1,2,3,4,5,6,7,8,9,10]] (by kernel_rfl) ?_) | ((with_reducible refine isWKr (id := 21) ?_); refine WK_drawAt 21 [[],[],[],[],[2,3],[2,3,4],[],[],[6,7],[6,7,8],[],[],[10,11],[10,11,12],[6,7,8,9,10,11,12,13],[2,3,4,5,6,7,8,9,10,11,12,13,14],[0,1,2,3,4,5,6,7,8,9,10,11,12,13,14,15],[0,1,2,3,4,5,6,7,8,9,10,11,12,13,14,15,16]] (by kernel_rfl) ?_) | ((with_reducible refine And.intro ?_ ?_); first | (with_reducible rfl) | assumption | (simp only [go_sem]; done)))
      refine EK_again (c + 1) (Weak.slots ?_) (by omega) (by omega)
      simp [go_sem]
    · have : c = R.length := by omega
      subst this
      have hcc2 : ((R.length : Int) < (R.length : Int)) = False := eq_false (by omega)
      rw [List.take_of_length_le (by omega)]
      repeat (first | (simp only [go_sem, Int.reduceLT, Int.reduceLE, Int.reduceEq, Int.reduceToNat, hcc2]) | ((with_reducible refine And.intro ?_ ?_); omega) | ((with_reducible refine isWKr (id := 3) ?_); refine WK_drawAt 3 [[],[0],[0,1],[],[3],[0,1,2,3,4]] (by kernel_rfl) ?_) | ((with_reducible refine isWKr (id := 7) ?_); refine WK_drawAt 7 [[],[],[],[2],[2,3],[],[],[5,6],[5,6,7],[2,3,4,5,6,7,8],[0,1,2,3,4,5,6,7,8,9],[0,1,2,3,4,5,6,7,8,9,10]] (by kernel_rfl) ?_) | ((with_reducible refine isWKr (id := 21) ?_); refine WK_drawAt 21 [[],[],[],[],[2,3],[2,3,4],[],[],[6,7],[6,7,8],[],[],[10,11],[10,11,12],[6,7,8,9,10,11,12,13],[2,3,4,5,6,7,8,9,10,11,12,13,14],[0,1,2,3,4,5,6,7,8,9,10,11,12,13,14,15],[0,1,2,3,4,5,6,7,8,9,10,11,12,13,14,15,16]] (by kernel_rfl) ?_) | ((with_reducible refine And.intro ?_ ?_); first | (with_reducible rfl) | assumption | (simp only [go_sem]; done)))
      have hte : tbN l R.length R' (fun i => min (near i) (jmp l m i)) = tbN l R'.length R' (nearU l near m R') := by
        rw [hfl]
        exact tbN_ext _ _ fun i hi => by unfold nearU; rw [if_pos hi]
      rw [hte] at hs
      have hs1' : s + 144 * ((R.length + 1 : Nat) : Int) ≤ 144 * 40 := hs1
      refine EK_again (R', nearU l near m R', s + near m, 0 :: Z) ?_ ⟨hfd, fun j hj => ?_, by simp only; omega, by simp only; omega, by simp only; omega⟩ (by simp only [List.length_cons]; omega)
      · have hvl := h.renC [some 0, some 1, some 2]
        have hw1 := flat_i64.lts H.length (natI R' ++ 0 :: Z)
        simp only [List.flatMap_append, List.flatMap_cons] at hw1
        rw [← hfl]
        exact Weak.pickC [some 0, some 1, some 2] (by simp [go_sem, hw1]) (by decide) (by simp [hx]) hw (by simp [go_sem, hvl] <;> omega)
      · have := hLm j (hfm j hj)
        have := jmp_le l m j
        simp only [nearU, if_pos hj]
        omega
end Go.Proofs.Ytjkkallcgplgmaa

