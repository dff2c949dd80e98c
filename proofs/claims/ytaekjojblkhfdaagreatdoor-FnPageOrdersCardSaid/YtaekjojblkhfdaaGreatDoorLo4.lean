/- Contracts of functions of the translated program, by the walk. -/
import Derived.Test.YtaekjojblkhfdaaGreatDoorTb6
import Derived.Test.YtaekjojblkhfdaaGreatDoorLD
import Derived.Test.YtaekjojblkhfdaaGreatDoorBo1
set_option linter.unusedVariables false
set_option linter.unusedSimpArgs false
set_option maxRecDepth 8000
set_option maxHeartbeats 16000000
namespace Go.Proofs.YtaekjojblkhfdaaGreatDoor
open Go Go.Sx
def nearU (l : List (Nat → Int)) (near : Nat → Int) (m : Nat) (L : List Nat) : Nat → Int := fun j => if j ∈ L then min (near j) (jmp l m j) else near j
theorem nearU_succ {l : List (Nat → Int)} {near : Nat → Int} {m : Nat} {L : List Nat} (hn : L.Nodup) {c : Nat} (hc : c < L.length) : upd (nearU l near m (L.take c)) L[c] (min (nearU l near m (L.take c) L[c]) (jmp l m L[c])) = nearU l near m (L.take (c + 1)) ∧ nearU l near m (L.take c) L[c] = near L[c] := by
  have hni : L[c] ∉ L.take c := by
    intro e
    obtain ⟨k, hk, hk2⟩ := List.mem_iff_getElem.1 e
    rw [List.getElem_take] at hk2
    have := (List.getElem_inj hn).1 hk2
    rw [List.length_take] at hk
    omega
  have h2 : nearU l near m (L.take c) L[c] = near L[c] := if_neg hni
  have hms : ∀ j, j ∈ L.take (c + 1) ↔ j ∈ L.take c ∨ j = L[c] := fun j => by
    rw [List.take_succ_eq_append_getElem hc, List.mem_append, List.mem_singleton]
  refine ⟨?_, h2⟩
  rw [h2]
  funext j
  unfold upd nearU
  by_cases e : j = L[c]
  · rw [if_pos e, if_pos ((hms j).2 (.inr e)), e]
  · rw [if_neg e]
    by_cases e2 : j ∈ L.take c
    · rw [if_pos e2, if_pos ((hms j).2 (.inl e2))]
    · rw [if_neg e2, if_neg (fun h => ((hms j).1 h).elim e2 e)]
theorem leftL_succ {n : Nat} (h : 1 ≤ n) : leftL (n + 1) = leftL n ++ [n] := by
  unfold leftL
  rw [show n + 1 - 1 = (n - 1) + 1 by omega, List.range_succ, List.map_append, List.map_singleton, show n - 1 + 1 = n by omega]
theorem natI_len (L : List Nat) : (natI L).length = L.length := by simp [natI]
theorem filter_erase : ∀ {L : List Nat} (_ : L.Nodup) {p : Nat} (hp : p < L.length), (L.filter fun i => decide (i ≠ L[p])) = L.eraseIdx p
  | [], _, p, hp => by simp at hp
  | a :: L, hn, 0, _ => by
    rw [List.nodup_cons] at hn
    rw [List.getElem_cons_zero, List.filter_cons_of_neg (by simp), List.eraseIdx_cons_zero, List.filter_eq_self.2]
    intro i hi
    simp only [decide_eq_true_eq]
    intro e; exact hn.1 (e ▸ hi)
  | a :: L, hn, p + 1, hp => by
    rw [List.nodup_cons] at hn
    have hp' : p < L.length := by simpa using hp
    rw [List.getElem_cons_succ, List.filter_cons_of_pos, List.eraseIdx_cons_succ, filter_erase hn.2 hp']
    simp only [decide_eq_true_eq]
    intro e; exact hn.1 (e ▸ List.getElem_mem hp')
theorem erase_filter {L : List Nat} (hn : L.Nodup) {p : Nat} (hp : p < L.length) : (natI L).eraseIdx p = natI (L.filter fun i => decide (i ≠ L[p])) := by
  rw [filter_erase hn hp]
  unfold natI
  rw [List.eraseIdx_eq_take_drop_succ, List.eraseIdx_eq_take_drop_succ, List.map_append, List.map_take, List.map_drop]
theorem implTreeBound_ok {H : List Blk} {v : V} {l : List (Nat → Int)} (h : Rd H v (rowL .u16 12) l) (hok : okB l = true) (hR : ∀ f ∈ l, R16 f) :
    Cal Tryz.prog 13 [v] H fun u H' => u = .t [.v (.int .i64 (tbV l)), .v (.int .i64 0)] ∧ H' = H := by
  have hsol := h.solid
  have hL := h.lenV (P := Tryz.prog) slTy25
  have h12 := okB_12 hok hR
  have h40 := (okB_iff.1 hok).1
  refine cal_fn 85 mixed Tryz.func13 Tryz.ntmps13 Tryz.results13 rfl rfl rfl fun hw cx hx hq => ?_
  repeat (first | (simp only [go_sem, Int.reduceLT, Int.reduceLE, Int.reduceEq, Int.reduceToNat, hsol, hL, hok, zerosI]) | ((with_reducible refine And.intro ?_ ?_); omega) | ((with_reducible refine isSK ?_); refine call_ret (validBook h (by omega)) ?_ ?_) | ((with_reducible refine isWKr (id := 3) ?_); refine WK_drawAt 3 [[],[0],[0,1],[],[3],[0,1,2,3,4]] (by kernel_rfl) ?_) )
  refine WK_for (fun i : Nat => ⟨[v, .any, .any, .any, .v (.int .i64 0), .p (H.length + 1) 0, .any, .any, .any, .any, .any, .any, .any, .any, .any, .any, .any, .any, .any, .v (.int .i64 l.length), .v (.int .i64 i)] ++ junk 65, H ++ [⟨rowL .i64 l.length (pfx (fun j => jmp l 0 j) (fun _ => 0) i), 2, .fix⟩, ⟨[.s H.length 0 l.length (.k l.length)], 27, .fix⟩]⟩) (fun i => i ≤ l.length) (fun i => l.length - i) 0 (Weak.slots ?_) ?_ fun i hi => ?_
  · simp [go_sem, pfx_zero]
  · simp
  rcases Int.lt_or_le (i : Int) l.length with hc | hc
  · have hci : ((i : Int) < (l.length : Int)) = True := eq_true hc
    have hwr := wr_pfx .i64 (n := i) (m := l.length) (fun j => jmp l 0 j) (fun _ => 0) (by omega) (x := jumpF (pg l 0) (pg l i)) rfl
    obtain ⟨i0, off, cc, bl, rfl, hat, hf⟩ := h.full (by omega)
    have hfr := Flat.flen (flat_rowL .u16 12) l
    rw [hfr] at hf
    have p1 := hat.elem (rowL .u16 12) 12 hz12 (show 0 < l.length by omega)
    have p2 := hat.elem (rowL .u16 12) 12 hz12 (show i < l.length by omega)
    rw [← pg_at (show 0 < l.length by omega)] at p1
    rw [← pg_at (show i < l.length by omega)] at p2
    simp only [Nat.zero_mul, Nat.add_zero] at p1
    repeat (first | (simp only [go_sem, Int.reduceLT, Int.reduceLE, Int.reduceEq, Int.reduceToNat, hsol, hci, (get_app hat.get), hat.live, p1, p2, hwr]) | ((with_reducible refine And.intro ?_ ?_); omega) | ((with_reducible refine isMC ?_); refine mcall_ret (jump (pg_12 h12 _) (pg_12 h12 _)) ?_ ?_ ?_) | ((with_reducible refine isWKr (id := 7) ?_); refine WK_drawAt 7 [[],[],[],[2],[2,3],[],[],[5,6],[5,6,7],[2,3,4,5,6,7,8],[0,1,2,3,4,5,6,7,8,9],[0,1,2,3,4,5,6,7,8,9,10]] (by kernel_rfl) ?_) )
    refine EK_again (i + 1) (Weak.slots ?_) (by omega) (by omega)
    simp [go_sem]
  have : i = l.length := by omega
  subst this
  have hci : ((l.length : Int) < (l.length : Int)) = False := eq_false (by omega)
  rw [pfx_all]
  repeat ((simp only [go_sem, Int.reduceLT, Int.reduceLE, Int.reduceEq, Int.reduceToNat, hci]) )
  refine WK_for (fun i : Nat => ⟨[v, .any, .any, .any, .v (.int .i64 0), .p (H.length + 1) 0, .any, .s (H.length + 2) 0 (leftL i).length (.u 0), .v (.int .i64 i)] ++ junk 77, H ++ [⟨rowL .i64 l.length (fun j => jmp l 0 j), 2, .fix⟩, ⟨[.s H.length 0 l.length (.k l.length)], 27, .fix⟩, ⟨(natI (leftL i)).flatMap i64C, 3, .own 1⟩]⟩) (fun i => 1 ≤ i ∧ (i = 1 ∨ i ≤ l.length)) (fun i => l.length - i) 1 (Weak.slots ?_) ?_ fun i hi => ?_
  · simp [go_sem, leftL, natI]
  · simp
  have hli := leftL_len i
  have hnl : ((natI (leftL i)).flatMap i64C).length = (leftL i).length := by rw [flat_i64.flen, Nat.mul_one, natI_len]
  have hn1 : norefH (H.length + 2) H := norefH_wf hw (by omega)
  have hfg := h.forget (n := H.length + 2) (by omega)
  have hn2 : norefs (H.length + 2) ((natI (leftL i)).flatMap i64C) = true := flat_i64.norefs _ _
  rcases Int.lt_or_le (i : Int) l.length with hc | hc
  · have hci : ((i : Int) < (l.length : Int)) = True := eq_true hc
    repeat (first | (simp only [go_sem, Int.reduceLT, Int.reduceLE, Int.reduceEq, Int.reduceToNat, hsol, hL, hci, hnl, hn1, hn2, hx, hfg]) | ((with_reducible refine And.intro ?_ ?_); omega) )
    refine EK_again (i + 1) ?_ (by omega) (by omega)
    have hw1 : lts H.length ((natI (leftL i)).flatMap i64C ++ [V.v (.int .i64 (i : Int))]) = True := by
      have := flat_i64.lts H.length (natI (leftL i) ++ [(i : Int)])
      rw [List.flatMap_append, List.flatMap_singleton] at this
      exact this
    have e1 : natI (leftL (i + 1)) = natI (leftL i) ++ [(i : Int)] := by rw [leftL_succ hi.1]; simp [natI]
    rw [e1, List.flatMap_append, List.flatMap_singleton, leftL_succ hi.1, List.length_append, List.length_singleton]
    have hvl := h.renC [some 0, some 1, some 2]
    exact Weak.pickC [some 0, some 1, some 2] (by simp [go_sem, hw1, i64C]) (by decide) (by simp [hx]) hw (by simp [go_sem, hvl] <;> omega)
  have hlf : leftL i = leftL l.length := by
    unfold leftL
    rw [show i - 1 = l.length - 1 by omega]
  have hci : ((i : Int) < (l.length : Int)) = False := eq_false (by omega)
  rw [hlf]
  repeat ((simp only [go_sem, Int.reduceLT, Int.reduceLE, Int.reduceEq, Int.reduceToNat, hsol, hL, hci]) )
  refine WK_for (fun q : List Nat × (Nat → Int) × Int × List Int => ⟨[v, .any, .any, .any, .v (.int .i64 q.2.2.1), .p (H.length + 1) 0, .any, .s (H.length + 2) 0 q.1.length (.i 0)] ++ junk 78, H ++ [⟨rowL .i64 l.length q.2.1, 2, .fix⟩, ⟨[.s H.length 0 l.length (.k l.length)], 27, .fix⟩, ⟨(natI q.1 ++ q.2.2.2).flatMap i64C, 3, .own 1⟩]⟩) (fun q => q.1.Nodup ∧ (∀ j ∈ q.1, j < l.length ∧ 0 ≤ q.2.1 j ∧ q.2.1 j ≤ 144) ∧ q.2.2.1 + tbN l q.1.length q.1 q.2.1 = tbV l ∧ 0 ≤ q.2.2.1 ∧ q.2.2.1 + 144 * q.1.length ≤ 144 * 40) (fun q => q.1.length) (leftL l.length, (fun j => jmp l 0 j), 0, []) ?_ ?_ fun q hq0 => ?_
  · have hvl := h.renC [some 0, some 1, some 2]
    have hw1 := flat_i64.lts H.length (natI (leftL l.length))
    exact Weak.pickC [some 0, some 1, some 2] (by simp [go_sem, hw1, List.append_nil]) (by decide) (by simp [hx]) hw (by simp [go_sem, hvl] <;> omega)
  · have hll := leftL_len l.length
    refine ⟨?_, fun j hj => ?_, ?_, by simp, by show (0 : Int) + 144 * (((leftL l.length).length : Nat) : Int) ≤ 144 * 40; omega⟩
    · simp only [leftL, List.Nodup, List.pairwise_map]
      exact (List.nodup_range (n := l.length - 1)).imp fun h e => h (by omega)
    · have := jmp_le l 0 j
      simp only [leftL, List.mem_map, List.mem_range] at hj
      obtain ⟨k, hk, rfl⟩ := hj
      exact ⟨by omega, this⟩
    · simp only [Int.zero_add, hll]; rfl
  obtain ⟨L, near, s, Z⟩ := q
  obtain ⟨hnd, hLm, hs, hs0, hs1⟩ := hq0
  simp only at hnd hLm hs hs0 hs1 ⊢
  cases L with
  | nil =>
    have hse : s = tbV l := by rw [← hs]; simp [tbN]
    have hz0 : ((0 : Int) < ((0 : Nat) : Int)) = False := eq_false (by omega)
    repeat ((simp only [go_sem, Int.reduceLT, Int.reduceLE, Int.reduceEq, Int.reduceToNat, hz0]) )
    refine ret_cut hq hw _ (.inl rfl) ?_
    simp [go_sem, hse]
  | cons a R =>
    have hmem : fmin near a R ∈ a :: R := by
      rcases fmin_mem near R a with e | e
      · rw [e]; exact List.mem_cons_self ..
      · exact List.mem_cons_of_mem _ e
    obtain ⟨p, hp, hpm⟩ := List.mem_iff_getElem.1 hmem
    have hlp : ((0 : Int) < ((R.length + 1 : Nat) : Int)) = True := eq_true (by omega)
    have hgt : 0 < (a :: R).length := by simp
    have htb : tbN l (a :: R).length (a :: R) near = near (fmin near a R) + tbN l R.length ((a :: R).filter fun i => decide (i ≠ fmin near a R)) (fun i => min (near i) (jmp l (fmin near a R) i)) := rfl
    rw [htb] at hs
    have hfl := filter_len hmem hnd
    have hfd : ((a :: R).filter fun i => decide (i ≠ fmin near a R)).Nodup := hnd.filter _
    have hfm : ∀ j, j ∈ ((a :: R).filter fun i => decide (i ≠ fmin near a R)) → j ∈ a :: R := fun j hj => (List.mem_filter.1 hj).1
    have hef := erase_filter hnd hp
    rw [hpm] at hef
    have hmn := hLm _ hmem
    have hRl : R.length + 1 ≤ 40 := by have : (a :: R).length = R.length + 1 := rfl; omega
    have hrd : Rd (H ++ [⟨rowL .i64 l.length near, 2, .fix⟩, ⟨[.s H.length 0 l.length (.k l.length)], 27, .fix⟩, ⟨(natI (a :: R) ++ Z).flatMap i64C, 3, .own 1⟩]) (.s (H.length + 2) 0 (R.length + 1) (.i 0)) i64C (natI (a :: R)) := Rd.fill 2 rfl rfl (by simp [natI])
    have hdel := deleteFunc (H := H ++ [⟨rowL .i64 l.length near, 2, .fix⟩, ⟨[.s H.length 0 l.length (.k l.length)], 27, .fix⟩, ⟨(natI (a :: R) ++ Z).flatMap i64C, 3, .own 1⟩, ⟨[.v (.int .i64 (fmin near a R))], 3, .fix⟩]) (bi := H.length + 2) (L := natI (a :: R)) (Z := Z) (p := p) (m := fmin near a R) (fn := 54) (cs := [.p (H.length + 3) 0]) (by exact (Go.Sx.get_at _ _ 2).trans rfl ) (by rw [natI_len]; exact hp) (by simp only [natI, List.getElem_map, hpm]) (by unfold natI; rw [List.Nodup, List.pairwise_map]; exact hnd.imp fun h e => h (by omega)) (by rw [natI_len]; exact (by omega : R.length + 1 ≤ 1000)) rfl (fun x b X => treeBound2 (k2 := .fix) (t2 := 3) (by simp [go_sem]) rfl)
    rw [natI_len, hef] at hdel
    generalize ((a :: R).filter fun i => decide (i ≠ fmin near a R)) = R' at hfl hfd hfm hs hdel
    simp only [set_at, List.set_cons_succ, List.set_cons_zero, List.length_cons, Nat.add_sub_cancel] at hdel hfl
    repeat (first | (simp only [go_sem, Int.reduceLT, Int.reduceLE, Int.reduceEq, Int.reduceToNat, hlp, rowL_cel _ _ _ hmn.1]) | ((with_reducible refine And.intro ?_ ?_); omega) | ((with_reducible refine isSK ?_); first | refine call_ret (hdel) ?_ ?_ | refine call_ret (minFunc (a := a) (r := R) (near := near) hrd (by omega) rfl fun x y hx1 hy1 => treeBound1 (c := .k l.length) (near := near) (by exact (Go.Sx.get_at _ _ 1).trans rfl ) rfl (by exact (Go.Sx.get_at0 _ _).trans rfl ) rfl (hLm x hx1).1 (hLm y hy1).1) ?_ ?_) )
    generalize fmin near a R = m at hmem hs hmn
    refine WK_for (fun c : Nat => ⟨[v, .any, .any, .any, .v (.int .i64 (s + near m)), .p (H.length + 1) 0, .any, .s (H.length + 2) 0 R.length (.i 0), .any, .p (H.length + 3) 0, .any, .any, .any, .any, .any, .any, .any, .any, .any, .any, .any, .any, .any, .any, .any, .any, .any, .any, .any, .any, .any, .any, .any, .any, .any, .any, .any, .any, .any, .any, .any, .any, .any, .any, .any, .any, .any, .any, .any, .any, .any, .any, .any, .any, .any, .any, .any, .any, .any, .any, .any, .s (H.length + 2) 0 R.length (.i 0), .v (.int .i64 R.length), .v (.int .i64 c)] ++ junk 22, H ++ [⟨rowL .i64 l.length (nearU l near m (R'.take c)), 2, .fix⟩, ⟨[.s H.length 0 l.length (.k l.length)], 27, .fix⟩, ⟨(natI R' ++ 0 :: Z).flatMap i64C, 3, .own 1⟩, ⟨[.v (.int .i64 m)], 3, .fix⟩]⟩) (fun c => c ≤ R.length) (fun c => R.length - c) 0 (Weak.slots ?_) ?_ fun c hcc => ?_
    · simp [go_sem, nearU]
    · simp
    rcases Int.lt_or_le (c : Int) R.length with hc2 | hc2
    · have hj : c < R'.length := by omega
      have hcc2 : ((c : Int) < (R.length : Int)) = True := eq_true hc2
      have hlc : c < (natI R' ++ 0 :: Z).length := by rw [List.length_append, natI_len]; omega
      have hce := (At.mk0 (H := H) (L := []) (cs := (natI R' ++ 0 :: Z).flatMap i64C) (t := 3) (k := .own 1) rfl).i64 (j := c) hlc
      have hx2 : (natI R' ++ 0 :: Z)[c]'hlc = (R'[c] : Int) := by
        rw [List.getElem_append_left (by rw [natI_len]; omega)]
        simp [natI]
      rw [hx2] at hce
      simp only [Nat.zero_add] at hce
      have hfl2 : ((natI R' ++ 0 :: Z).flatMap i64C).length = R.length + (Z.length + 1) := by rw [flat_i64.flen, Nat.mul_one, List.length_append, natI_len, List.length_cons, hfl]
      have hns := nearU_succ (l := l) (near := near) (m := m) hfd hj
      have hxm := hLm _ (hfm _ (List.getElem_mem hj))
      generalize R'[c] = x at hce hns hxm
      have hwr := rowL_wr .i64 l.length (nearU l near m (R'.take c)) hxm.1 (min (nearU l near m (R'.take c) x) (jmp l m x))
      rw [hns.1] at hwr
      have hrc := rowL_cel .i64 l.length (nearU l near m (R'.take c)) hxm.1
      rw [hns.2] at hwr hrc
      obtain ⟨i0, off, cc, bl, rfl, hat, hf⟩ := h.full (by omega)
      have hfr := Flat.flen (flat_rowL .u16 12) l
      rw [hfr] at hf
      have p1 := hat.elem (rowL .u16 12) 12 hz12 hmn.1
      have p2 := hat.elem (rowL .u16 12) 12 hz12 hxm.1
      rw [← pg_at hmn.1] at p1
      rw [← pg_at hxm.1] at p2
      have hjm : jumpF (pg l m) (pg l x) = jmp l m x := rfl
      have hmn2 : (if jmp l m x < near x then jmp l m x else near x) = min (near x) (jmp l m x) := by split <;> omega
      repeat (first | (simp only [go_sem, Int.reduceLT, Int.reduceLE, Int.reduceEq, Int.reduceToNat, hsol, hmn2, hcc2, (get_app hat.get), hat.live, p1, p2, hjm, hwr, hrc, hce, hfl2, Int.toNat_natCast]) | ((with_reducible refine And.intro ?_ ?_); omega) | ((with_reducible refine isMC ?_); refine mcall_ret (jump (pg_12 h12 _) (pg_12 h12 _)) ?_ ?_ ?_) | ((with_reducible refine isWKr (id := 21) ?_); refine WK_drawAt 21 [[],[],[],[],[2,3],[2,3,4],[],[],[6,7],[6,7,8],[],[],[10,11],[10,11,12],[6,7,8,9,10,11,12,13],[2,3,4,5,6,7,8,9,10,11,12,13,14],[0,1,2,3,4,5,6,7,8,9,10,11,12,13,14,15],[0,1,2,3,4,5,6,7,8,9,10,11,12,13,14,15,16]] (by kernel_rfl) ?_) )
      refine EK_again (c + 1) (Weak.slots ?_) (by omega) (by omega)
      simp [go_sem]
    · have : c = R.length := by omega
      subst this
      have hcc2 : ((R.length : Int) < (R.length : Int)) = False := eq_false (by omega)
      rw [List.take_of_length_le (by omega)]
      repeat ((simp only [go_sem, Int.reduceLT, Int.reduceLE, Int.reduceEq, Int.reduceToNat, hcc2]) )
      have hte : tbN l R.length R' (fun i => min (near i) (jmp l m i)) = tbN l R'.length R' (nearU l near m R') := by
        rw [hfl]
        exact tbN_ext _ _ fun i hi => by unfold nearU; rw [if_pos hi]
      rw [hte] at hs
      have hs1' : s + 144 * ((R.length + 1 : Nat) : Int) ≤ 144 * 40 := hs1
      refine EK_again (R', nearU l near m R', s + near m, 0 :: Z) ?_ ⟨hfd, fun j hj => ?_, by simp only; omega, by simp only; omega, by simp only; omega⟩ (by simp only [List.length_cons]; omega)
      · have hvl := h.renC [some 0, some 1, some 2]
        have hw1 := flat_i64.lts H.length (natI R' ++ 0 :: Z)
        simp only [List.flatMap_append, List.flatMap_cons] at hw1
        rw [← hfl]
        exact Weak.pickC [some 0, some 1, some 2] (by simp [go_sem, hw1]) (by decide) (by simp [hx]) hw (by simp [go_sem, hvl] <;> omega)
      · have := hLm j (hfm j hj)
        have := jmp_le l m j
        simp only [nearU, if_pos hj]
        omega
end Go.Proofs.YtaekjojblkhfdaaGreatDoor
namespace Go.Proofs.YtaekjojblkhfdaaGreatDoor
open Go Go.Sx

theorem reverseI {H : List Blk} {bi a n : Nat} {c : Cap} {L : List (Int)} {ty : TypeId} {kd : BK} (hb : H[bi]? = some ⟨L.flatMap i64C, ty, kd⟩) (hk : kd.mut = true) (hn : a + n ≤ L.length) (hl : L.length ≤ 1000000) :
    Cal Tryz.prog 58 [.s bi (a) n c] H fun u H' => u = .t [] ∧ H' = H.set bi ⟨(revW L a n (n / 2)).flatMap i64C, ty, kd⟩ := by
  have hlt := (List.getElem?_eq_some_iff.1 hb).1
  have hgs : ∀ b : Blk, (H.set bi b)[bi]? = some b := fun b => List.getElem?_set_self hlt
  have hlive : kd.live = true := by cases kd <;> first | rfl | cases hk
  refine cal_fn 27 mixed Tryz.func58 Tryz.ntmps58 Tryz.results58 rfl rfl rfl fun hw cx hx hq => ?_
  repeat (first | (simp only [go_sem, Int.reduceLT, Int.reduceLE, Int.reduceEq, Int.reduceToNat]) | ((with_reducible refine And.intro ?_ ?_); omega) )
  refine WK_for (fun m : Nat => ⟨[.s bi (a) n c, .any, .v (.int .i64 m), .v (.int .i64 ((n : Int) - 1 - m))] ++ junk 24, H.set bi ⟨(revW L a n m).flatMap i64C, ty, kd⟩⟩) (fun m => m ≤ n / 2) (fun m => n / 2 - m) 0 ?_ (Nat.zero_le _) fun m hm => ?_
  · rw [show revW L a n 0 = L from rfl, set_get hb]; exact Weak.slots (by simp [go_sem])
  have hML := revW_len L a n m
  rcases Int.lt_or_le (m : Int) ((n : Int) - 1 - m) with hc | hc
  · have g1 : a + n - 1 - m < (revW L a n m).length := by omega
    have g2 : a + m < (revW L a n m).length := by omega
    have t1 : ((n : Int) - 1 - m).toNat = n - 1 - m := by omega
    have hfl : ((revW L a n m).flatMap i64C).length = L.length * 1 := by rw [flat_len i64C 1 (fun _ => rfl), hML]
    have f1 : cel ((revW L a n m).flatMap i64C) (a + (n - 1 - m)) = .v (.int .i64 ((revW L a n m).getD (a + n - 1 - m) default)) := by
      have := (At.mk0 (H := []) (L := []) (cs := (revW L a n m).flatMap i64C) (t := 0) (k := .own 1) rfl).i64 (show a + n - 1 - m < (revW L a n m).length from g1)
      rw [getD_at _ (g1), ← this]; congr 1; omega
    have f2 : cel ((revW L a n m).flatMap i64C) (a + (m)) = .v (.int .i64 ((revW L a n m).getD (a + m) default)) := by
      have := (At.mk0 (H := []) (L := []) (cs := (revW L a n m).flatMap i64C) (t := 0) (k := .own 1) rfl).i64 (show a + m < (revW L a n m).length from g2)
      rw [getD_at _ (g2), ← this]; congr 1; omega
    have hs : revW L a n (m + 1) = swapL (revW L a n m) (a + m) (a + n - 1 - m) := rfl
    unfold swapL at hs
    generalize (revW L a n m).getD (a + n - 1 - m) default = x1 at f1 hs
    generalize (revW L a n m).getD (a + m) default = x2 at f2 hs
    have w1 : wr ((revW L a n m).flatMap i64C) (a + (m)) [.v (.int .i64 (x1))] = ((revW L a n m).set (a + m) (x1)).flatMap i64C := by
      rw [← flat_set i64C 1 (fun _ => rfl) _ _ x1 g2]; rw [Nat.mul_one]; rfl
    have w2 : wr (((revW L a n m).set (a + m) x1).flatMap i64C) (a + (n - 1 - m)) [.v (.int .i64 (x2))] = (((revW L a n m).set (a + m) x1).set (a + n - 1 - m) (x2)).flatMap i64C := by
      rw [← flat_set i64C 1 (fun _ => rfl) _ _ x2 (by rw [List.length_set]; exact g1)]; rw [Nat.mul_one, show a + (n - 1 - m) = a + n - 1 - m by omega]; rfl
    have hfl2 : (((revW L a n m).set (a + m) x1).flatMap i64C).length = L.length * 1 := by rw [flat_len i64C 1 (fun _ => rfl), List.length_set, hML]
    repeat (first | (simp only [go_sem, Int.reduceLT, Int.reduceLE, Int.reduceEq, Int.reduceToNat, hc, hgs, hk, hlive, t1, f1, f2, w1, w2, hfl, hfl2, List.set_set, Nat.mul_one]) | ((with_reducible refine And.intro ?_ ?_); omega) | ((with_reducible refine isWKr (id := 3) ?_); refine WK_drawAt 3 [[],[],[],[],[],[],[4,5],[4,5,6],[],[],[8,9],[8,9,10],[0,1,4,5,6,7,8,9,10,11],[0,1,4,5,6,7,8,9,10,11,12],[0,1,2,3,4,5,6,7,8,9,10,11,12,13],[0,1,2,3,4,5,6,7,8,9,10,11,12,13,14]] (by kernel_rfl) ?_) )
    refine EK_again (m + 1) ?_ (by omega) (by omega)
    rw [hs]
    exact Weak.slots (by simp [go_sem] <;> omega)
  · have : m = n / 2 := by omega
    subst this
    repeat ((simp only [go_sem, Int.reduceLT, Int.reduceLE, Int.reduceEq, Int.reduceToNat, Int.not_lt.2 hc]) )
    refine ret_at hq _ (.inr rfl) (by simp) ?_
    simp [go_sem]


end Go.Proofs.YtaekjojblkhfdaaGreatDoor
namespace Go.Proofs.YtaekjojblkhfdaaGreatDoor
open Go Go.Sx
theorem localOrder1 {H : List Blk} {bb bc br : Nat} {v : V} {l : List (Nat → Int)} {o : List Int} {i k : Int} {c : Cap} {t1 t2 t3 : TypeId} {k1 k2 k3 : BK} (hb : H[bb]? = some ⟨[v], t1, k1⟩) (l1 : k1.live = true) (h : Rd H v (rowL .u16 12) l) (h12 : ∀ f ∈ l, F12 f) (hc : H[bc]? = some ⟨[.s br 0 o.length c], t2, k2⟩) (l2 : k2.live = true) (hrow : H[br]? = some ⟨o.flatMap i64C, t3, k3⟩) (l3 : k3.live = true) (ho : OrdP o l.length) (hl : l.length ≤ 40) (hi : -1 ≤ i ∧ i < o.length) (hk : 0 ≤ k ∧ k ≤ o.length) :
    Cal Tryz.prog 57 [.v (.int .i64 i), .v (.int .i64 k), .p bc 0, .p bb 0] H fun u H' => u = .v (.int .i64 (btw (inO l o) i k)) ∧ H' = H := by
  have hsol := h.solid
  have hL := inO_len l o
  have lb := (List.getElem?_eq_some_iff.1 hb).1
  have lc := (List.getElem?_eq_some_iff.1 hc).1
  have lr := (List.getElem?_eq_some_iff.1 hrow).1
  have hfl : (o.flatMap i64C).length = o.length := by rw [flat_i64.flen, Nat.mul_one]
  refine cal_fn 26 mixed Tryz.func57 Tryz.ntmps57 Tryz.results57 rfl rfl rfl fun hw cx hx hq => ?_
  by_cases hi0 : i < 0
  · have c1 : (i < 0) = True := eq_true hi0
    repeat ((simp only [go_sem, Int.reduceLT, Int.reduceLE, Int.reduceEq, Int.reduceToNat, c1, hb, hc, hrow, l1, l2, l3, hsol]) )
    refine ret_same hq _ (.inl rfl) ?_
    simp [go_sem, btw, hi0]
  have c1 : (i < 0) = False := eq_false hi0
  by_cases hkn : (o.length : Int) ≤ k
  · have c2 : ((o.length : Int) ≤ k) = True := eq_true hkn
    repeat ((simp only [go_sem, Int.reduceLT, Int.reduceLE, Int.reduceEq, Int.reduceToNat, c1, c2, hb, hc, hrow, l1, l2, l3, hsol]) )
    refine ret_same hq _ (.inl rfl) ?_
    simp [go_sem, btw, hL, hkn]
  have c2 : ((o.length : Int) ≤ k) = False := eq_false hkn
  obtain ⟨a, rfl⟩ := Int.eq_ofNat_of_zero_le (show 0 ≤ i by omega)
  obtain ⟨b, rfl⟩ := Int.eq_ofNat_of_zero_le (show 0 ≤ k by omega)
  have ha : a < o.length := by omega
  have hbk : b < o.length := by omega
  have at1 : At H br 0 (o.flatMap i64C) ⟨o.flatMap i64C, t3, k3⟩ := ⟨hrow, l3, by unfold seg; rw [List.drop_zero, List.take_length]⟩
  have e1 := at1.i64 ha
  have e2 := at1.i64 hbk
  simp only [Nat.zero_add] at e1 e2
  have o1 := ho.2.1 _ (List.getElem_mem ha)
  have o2 := ho.2.1 _ (List.getElem_mem hbk)
  have hbt : btw (inO l o) (a : Int) (b : Int) = jumpF (pg l (o[a]).toNat) (pg l (o[b]).toNat) := by
    unfold btw
    rw [if_neg (by rw [hL]; omega), Int.toNat_natCast, Int.toNat_natCast, pg_at (show a < (inO l o).length by omega), pg_at (show b < (inO l o).length by omega)]
    simp [inO]
  rw [hbt] at hq
  generalize o[a] = x at e1 o1 hq
  generalize o[b] = y at e2 o2 hq
  obtain ⟨i0, off, cc, bl, rfl, hat, hf⟩ := h.full (by omega)
  have hfr := Flat.flen (flat_rowL .u16 12) l
  rw [hfr] at hf
  have p1 := hat.elem (rowL .u16 12) 12 hz12 (show x.toNat < l.length by omega)
  have p2 := hat.elem (rowL .u16 12) 12 hz12 (show y.toNat < l.length by omega)
  rw [← pg_at (show x.toNat < l.length by omega)] at p1
  rw [← pg_at (show y.toNat < l.length by omega)] at p2
  repeat (first | (simp only [go_sem, Int.reduceLT, Int.reduceLE, Int.reduceEq, Int.reduceToNat, c1, c2, hb, hc, hrow, l1, l2, l3, hsol, hfl, e1, e2, hat.get, hat.live, p1, p2]) | ((with_reducible refine And.intro ?_ ?_); omega) | ((with_reducible refine isSK ?_); refine call_ret (jump (pg_12 h12 _) (pg_12 h12 _)) ?_ ?_) | ((with_reducible refine isWKr (id := 3) ?_); refine WK_drawUp 3 [[],[],[],[1,2],[1,2,3],[0,1,2,3,4],[0,1,2,3,4,5],[],[],[],[8,9],[8,9,10],[7,8,9,10,11],[7,8,9,10,11,12],[0,1,2,3,4,5,6,7,8,9,10,11,12,13],[0,1,2,3,4,5,6,7,8,9,10,11,12,13,14]] 14 (by kernel_rfl) ?_; dsimp only [List.take, List.drop]) )
  refine ret_same hq _ (.inl rfl) ?_
  simp [go_sem]
end Go.Proofs.YtaekjojblkhfdaaGreatDoor
namespace Go.Proofs.YtaekjojblkhfdaaGreatDoor
open Go Go.Sx
def capAt (n m : Nat) : Cap := if n = m then .u 0 else .w
theorem capAt_eq (n : Nat) : capAt n n = .u 0 := if_pos rfl
theorem capAt_ne {n m : Nat} (h : n ≠ m) : capAt n m = .w := if_neg h
theorem implLocalOrder_ok {H : List Blk} {v : V} {l : List (Nat → Int)} (h : Rd H v (rowL .u16 12) l) (hok : okB l = true) (hR : ∀ f ∈ l, R16 f) :
    Cal Tryz.prog 15 [v] H fun u H' => u = .t [.s H.length 0 l.length (.u 0), .v (.int .i64 (allJ (inO l (locO l (plainL l.length))))), .v (.int .i64 0)] ∧ H' = H ++ [⟨(locO l (plainL l.length)).flatMap i64C, 2, .own 1⟩] := by
  have hsol := h.solid
  have hL := h.lenV (P := Tryz.prog) slTy25
  have h12 := okB_12 hok hR
  have h40 := (okB_iff.1 hok).1
  have hvl := h.vlt (Nat.le_refl _)
  have hcl : cellsL v = [v] := by rcases h with ⟨rfl, _⟩ | ⟨_, _, _, _, rfl, _⟩ <;> rfl
  refine cal_fn 87 mixed Tryz.func15 Tryz.ntmps15 Tryz.results15 rfl rfl rfl fun hw cx hx hq => ?_
  repeat (first | (simp only [go_sem, Int.reduceLT, Int.reduceLE, Int.reduceEq, Int.reduceToNat, hsol, hL, hok, hcl, List.length_singleton]) | ((with_reducible refine isSK ?_); refine call_ret (validBook h.app (by omega)) ?_ ?_) )
  refine WK_for (fun n : Nat => ⟨[.any, .p H.length 0, .any, .any, .any, .p (H.length + 2) 0, .any, .any, .any, .any, .any, .any, .any, .any, .any, .any, .any, .any, .any, .any, .v (.int .i64 l.length), .v (.int .i64 n)] ++ junk 66, H ++ [⟨[v], 25, .fix⟩, ⟨(plainL n).flatMap i64C, 2, .own 1⟩, ⟨[.s (H.length + 1) 0 n (capAt n l.length)], 27, .fix⟩]⟩) (fun n => n ≤ l.length) (fun n => l.length - n) 0 ?_ ?_ fun n hn => ?_
  · simp only [plainL, List.range_zero, List.map_nil, List.flatMap_nil]
    by_cases e0 : 0 = l.length
    · rw [← e0, capAt_eq]
      exact Weak.pickC [some 0, some 1, some 2] (by simp [go_sem, hvl]) (by decide) (by simp [hx]) hw (by simp [go_sem] <;> omega)
    · rw [capAt_ne e0]
      exact Weak.pickC [some 0, some 1, some 2] (by simp [go_sem, hvl]) (by decide) (by simp [hx]) hw (by simp [go_sem] <;> omega)
  · simp
  rcases Int.lt_or_le (n : Int) l.length with hc | hc
  · have hci : ((n : Int) < (l.length : Int)) = True := eq_true hc
    have hpl := plainL_len n
    have hp1 : ((plainL n).flatMap i64C).length = n := by rw [flat_i64.flen, Nat.mul_one, hpl]
    rw [capAt_ne (show n ≠ l.length by omega)]
    repeat (first | (simp only [go_sem, Int.reduceLT, Int.reduceLE, Int.reduceEq, Int.reduceToNat, hci, hp1]) | ((with_reducible refine And.intro ?_ ?_); omega) )
    refine EK_again (n + 1) ?_ (by omega) (by omega)
    rw [plainL_succ, List.flatMap_append, List.flatMap_singleton]
    have hw1 : lts H.length ((plainL n).flatMap i64C ++ [V.v (.int .i64 (n : Int))]) = True := by
      have := flat_i64.lts H.length (plainL n ++ [(n : Int)])
      rw [List.flatMap_append, List.flatMap_singleton] at this
      exact this
    by_cases e0 : n + 1 = l.length
    · rw [e0, capAt_eq]
      exact Weak.pickC [some 0, some 4, some 2] (by simp [go_sem, hvl, hw1, i64C]) (by decide) (by simp [hx]) hw (by simp [go_sem] <;> omega)
    · rw [capAt_ne e0]
      exact Weak.pickC [some 0, some 4, some 2] (by simp [go_sem, hvl, hw1, i64C]) (by decide) (by simp [hx]) hw (by simp [go_sem] <;> omega)
  have : n = l.length := by omega
  subst this
  have hci : ((l.length : Int) < (l.length : Int)) = False := eq_false (by omega)
  rw [capAt_eq]
  repeat ((simp only [go_sem, Int.reduceLT, Int.reduceLE, Int.reduceEq, Int.reduceToNat, hci]) )
  refine WK_for (fun o : List Int => ⟨[.any, .p H.length 0, .any, .any, .any, .p (H.length + 2) 0, .any, .f 57 [.p (H.length + 2) 0, .p H.length 0]] ++ junk 80, H ++ [⟨[v], 25, .fix⟩, ⟨(o).flatMap i64C, 2, .own 1⟩, ⟨[.s (H.length + 1) 0 l.length (.u 0)], 27, .fix⟩]⟩) (fun o => OrdP o l.length ∧ locO l o = locO l (plainL l.length)) (fun o => (allJ (inO l o)).toNat) (plainL l.length) (Weak.slots ?_) ⟨plain_ordL _, rfl⟩ fun o hq0 => ?_
  · simp [go_sem]
  obtain ⟨ho, hloc⟩ := hq0
  have hol := ho.1
  have hiL := inO_len l o
  have hi12 := inO_12 h12 o
  have hJ := allJ_range (inO l o)
  repeat ((simp only [go_sem, Int.reduceLT, Int.reduceLE, Int.reduceEq, Int.reduceToNat]) )
  refine WK_for (fun i : Nat => ⟨[.any, .p H.length 0, .any, .any, .any, .p (H.length + 2) 0, .any, .f 57 [.p (H.length + 2) 0, .p H.length 0], .v (.int .i64 (selA (inO l o) i).1.1), .v (.int .i64 (selA (inO l o) i).1.2), .v (.int .i64 (selA (inO l o) i).2), .any, .any, .any, .any, .any, .any, .any, .any, .any, .any, .any, .any, .any, .any, .any, .any, .any, .any, .any, .any, .v (.int .i64 l.length), .v (.int .i64 i)] ++ junk 55, H ++ [⟨[v], 25, .fix⟩, ⟨(o).flatMap i64C, 2, .own 1⟩, ⟨[.s (H.length + 1) 0 l.length (.u 0)], 27, .fix⟩]⟩) (fun i => i ≤ l.length) (fun i => l.length - i) 0 (Weak.slots ?_) ?_ fun i hi => ?_
  · simp [go_sem, selA]
  · simp
  have hs0 := selA_ok (L := inO l o) i (by omega)
  rcases Int.lt_or_le (i : Int) l.length with hc | hc
  · have hci2 : ((i : Int) < (l.length : Int)) = True := eq_true hc
    repeat ((simp only [go_sem, Int.reduceLT, Int.reduceLE, Int.reduceEq, Int.reduceToNat, hci2]) )
    refine WK_for (fun c : Nat => ⟨[.any, .p H.length 0, .any, .any, .any, .p (H.length + 2) 0, .any, .f 57 [.p (H.length + 2) 0, .p H.length 0], .v (.int .i64 (selR (inO l o) (selA (inO l o) i) i c).1.1), .v (.int .i64 (selR (inO l o) (selA (inO l o) i) i c).1.2), .v (.int .i64 (selR (inO l o) (selA (inO l o) i) i c).2), .v (.int .i64 i), .v (.int .i64 ((i + c : Nat) : Int)), .any, .any, .any, .any, .any, .any, .any, .any, .any, .any, .any, .any, .any, .any, .any, .any, .any, .any, .v (.int .i64 l.length), .v (.int .i64 i)] ++ junk 55, H ++ [⟨[v], 25, .fix⟩, ⟨(o).flatMap i64C, 2, .own 1⟩, ⟨[.s (H.length + 1) 0 l.length (.u 0)], 27, .fix⟩]⟩) (fun c => i + c ≤ l.length) (fun c => l.length - c) 0 (Weak.slots ?_) ?_ fun c hcc => ?_
    · simp [go_sem, selR]
    · omega
    have hs1 := selR_ok hs0 i c (by omega)
    have hsucc : selR (inO l o) (selA (inO l o) i) i (c + 1) = stpG (inO l o) (selR (inO l o) (selA (inO l o) i) i c) i (i + c) := rfl
    have hfin : i + c = l.length → selA (inO l o) (i + 1) = selR (inO l o) (selA (inO l o) i) i c := fun e => by
      rw [selA, hiL, hol]; congr 1; omega
    generalize hsg : selR (inO l o) (selA (inO l o) i) i c = s at hs1 hsucc hfin ⊢
    obtain ⟨k, hk⟩ : ∃ k : Nat, k = i + c := ⟨_, rfl⟩
    rw [← hk] at hsucc ⊢
    rcases Int.lt_or_le (k : Int) l.length with hc3 | hc3
    · have hck : ((k : Int) < (l.length : Int)) = True := eq_true hc3
      have cl := fun (x y : Int) (hx1 : -1 ≤ x ∧ x < o.length) (hy1 : 0 ≤ y ∧ y ≤ o.length) => localOrder1 (H := H ++ [⟨[v], 25, .fix⟩, ⟨(o).flatMap i64C, 2, .own 1⟩, ⟨[.s (H.length + 1) 0 l.length (.u 0)], 27, .fix⟩]) (bb := H.length) (bc := H.length + 2) (br := H.length + 1) (v := v) (l := l) (o := o) (i := x) (k := y) (by exact (Go.Sx.get_at0 _ _).trans rfl ) rfl h.app h12 (by rw [hol]; exact (Go.Sx.get_at _ _ 2).trans rfl ) rfl (by exact (Go.Sx.get_at _ _ 1).trans rfl ) rfl ho h40 hx1 hy1
      have r1 := btw_range (inO l o) ((i : Int) - 1) i
      have r2 := btw_range (inO l o) k ((k : Int) + 1)
      have r3 := btw_range (inO l o) ((i : Int) - 1) k
      have r4 := btw_range (inO l o) i ((k : Int) + 1)
      have hge : btw (inO l o) ((i : Int) - 1) i + btw (inO l o) k ((k : Int) + 1) - (btw (inO l o) ((i : Int) - 1) k + btw (inO l o) i ((k : Int) + 1)) = gainL (inO l o) i k := rfl
      by_cases e5 : s.2 < gainL (inO l o) i k
      · have e6 : (s.2 < gainL (inO l o) i k) = True := eq_true e5
        have hs2 : stpG (inO l o) s i k = ((i, k), gainL (inO l o) i k) := by unfold stpG; rw [if_pos e5]
        repeat (first | (simp only [go_sem, Int.reduceLT, Int.reduceLE, Int.reduceEq, Int.reduceToNat, hck, hge, e6]) | ((with_reducible refine And.intro ?_ ?_); omega) | ((with_reducible refine isSK ?_); refine call_ret (cl _ _ (by omega) (by omega)) ?_ ?_) )
        refine EK_again (c + 1) (Weak.slots ?_) (by omega) (by omega)
        rw [hsucc, hs2, show i + (c + 1) = k + 1 by omega]
        simp [go_sem]
      · have e6 : (s.2 < gainL (inO l o) i k) = False := eq_false e5
        have hs2 : stpG (inO l o) s i k = s := by unfold stpG; rw [if_neg e5]
        repeat (first | (simp only [go_sem, Int.reduceLT, Int.reduceLE, Int.reduceEq, Int.reduceToNat, hck, hge, e6]) | ((with_reducible refine And.intro ?_ ?_); omega) | ((with_reducible refine isSK ?_); refine call_ret (cl _ _ (by omega) (by omega)) ?_ ?_) )
        refine EK_again (c + 1) (Weak.slots ?_) (by omega) (by omega)
        rw [hsucc, hs2, show i + (c + 1) = k + 1 by omega]
        simp [go_sem]
    · have hck : ((k : Int) < (l.length : Int)) = False := eq_false (by omega)
      repeat (first | (simp only [go_sem, Int.reduceLT, Int.reduceLE, Int.reduceEq, Int.reduceToNat, hck]) | ((with_reducible refine And.intro ?_ ?_); omega) )
      refine EK_again (i + 1) (Weak.slots ?_) (by omega) (by omega)
      rw [hfin (by omega)]
      simp [go_sem]
  have : i = l.length := by omega
  subst this
  have hci2 : ((l.length : Int) < (l.length : Int)) = False := eq_false (by omega)
  have hso : selA (inO l o) l.length = selO l o := by unfold selO; rw [hol]
  rw [hso] at hs0 ⊢
  by_cases hz : (selO l o).2 = 0
  · rw [hz]
    have hlo := locO_end hz
    repeat ((simp only [go_sem, Int.reduceLT, Int.reduceLE, Int.reduceEq, Int.reduceToNat, hci2]) )
    have hvl3 := h.vlt (n := H.length + 3) (by omega)
    refine WK_looseN 23 [[],[],[],[1,2],[1,2,3],[0,1,2,3,4],[0,1,2,3,4,5],[0,1,2,3,4,5,6]] 0 [] [(0, 77), (1, 78), (2, 79)] [(3, [1, 2], []), (4, [], []), (5, [0], []), (6, [], []), (7, [], [])] (by kernel_rfl) ?_; dsimp only [List.take]
    repeat (first | (simp only [go_sem, Int.reduceLT, Int.reduceLE, Int.reduceEq, Int.reduceToNat, hci2, hsol, hvl3]) | ((with_reducible refine isSK ?_); first | refine call_ret (inOrder (l := l) (o := o) h.app (Rd.own 1 rfl rfl hol.symm) (okI_of ho) (by omega)) ?_ ?_ | refine call_ret (allJumps (l := inO l o) (Rd.own 3 rfl rfl rfl) hi12 (by omega)) ?_ ?_) | ((with_reducible refine exV0 ?_); try simp only [go_sem, fillZ, pr, List.getD_cons_zero, List.getD_cons_succ, List.getD_nil, ls0, opnd, stay, anyL, clo, List.map_cons, List.map_nil, List.zip_cons_cons, List.zip_nil_left, List.zip_nil_right, List.append_nil, List.nil_append, List.cons_append, List.foldl_cons, List.foldl_nil, List.filter_cons, List.filter_nil, List.contains_nil, List.contains_cons, List.elem_nil, beq_self_eq_true, Nat.reduceBEq, Bool.or_false, Bool.or_true, Bool.true_or, Bool.false_or, Bool.not_true, Bool.not_false, Bool.false_eq_true, if_true, if_false, St.put, Int.reduceLT, Int.reduceLE, Int.reduceEq, Int.reduceToNat, hci2, hsol, hvl3]) | ((with_reducible apply exV3 ); try simp only [go_sem, fillZ, pr, List.getD_cons_zero, List.getD_cons_succ, List.getD_nil, ls0, opnd, stay, anyL, clo, List.map_cons, List.map_nil, List.zip_cons_cons, List.zip_nil_left, List.zip_nil_right, List.append_nil, List.nil_append, List.cons_append, List.foldl_cons, List.foldl_nil, List.filter_cons, List.filter_nil, List.contains_nil, List.contains_cons, List.elem_nil, beq_self_eq_true, Nat.reduceBEq, Bool.or_false, Bool.or_true, Bool.true_or, Bool.false_or, Bool.not_true, Bool.not_false, Bool.false_eq_true, if_true, if_false, St.put, Int.reduceLT, Int.reduceLE, Int.reduceEq, Int.reduceToNat, hci2, hsol, hvl3]) | ((with_reducible apply isTKs); apply TK_step rfl rfl; (focus ((repeat (apply evCons; (focus (apply evZ_mk0; (focus rfl); (focus rfl); (focus rfl); rotate_left 3; (focus (simp only [go_sem, fillZ, pr, List.getD_cons_zero, List.getD_cons_succ, List.getD_nil, ls0, opnd, stay, anyL, clo, List.map_cons, List.map_nil, List.zip_cons_cons, List.zip_nil_left, List.zip_nil_right, List.append_nil, List.nil_append, List.cons_append, List.foldl_cons, List.foldl_nil, List.filter_cons, List.filter_nil, List.contains_nil, List.contains_cons, List.elem_nil, beq_self_eq_true, Nat.reduceBEq, Bool.or_false, Bool.or_true, Bool.true_or, Bool.false_or, Bool.not_true, Bool.not_false, Bool.false_eq_true, if_true, if_false, St.put, Int.reduceLT, Int.reduceLE, Int.reduceEq, Int.reduceToNat, hci2, hsol, hvl3]; try with_reducible rfl )); (all_goals try first | (simp [go_sem, hx, Int.reduceLT, Int.reduceLE, Int.reduceEq, Int.reduceToNat, hci2, hsol, hvl3]; done) | (intro e; (cases e; exact absurd (by assumption : V.solid .any = true) (by decide))) | (simp [go_sem, fillZ, pr, List.getD_cons_zero, List.getD_cons_succ, List.getD_nil, ls0, opnd, stay, anyL, clo, List.map_cons, List.map_nil, List.zip_cons_cons, List.zip_nil_left, List.zip_nil_right, List.append_nil, List.nil_append, List.cons_append, List.foldl_cons, List.foldl_nil, List.filter_cons, List.filter_nil, List.contains_nil, List.contains_cons, List.elem_nil, beq_self_eq_true, Nat.reduceBEq, Bool.or_false, Bool.or_true, Bool.true_or, Bool.false_or, Bool.not_true, Bool.not_false, Bool.false_eq_true, if_true, if_false, St.put]; done)))))); exact evNil)); simp only [fillZ, pr, List.getD_cons_zero, List.getD_cons_succ, List.getD_nil, ls0, opnd, stay, anyL, clo, List.map_cons, List.map_nil, List.zip_cons_cons, List.zip_nil_left, List.zip_nil_right, List.append_nil, List.nil_append, List.cons_append, List.foldl_cons, List.foldl_nil, List.filter_cons, List.filter_nil, List.contains_nil, List.contains_cons, List.elem_nil, beq_self_eq_true, Nat.reduceBEq, Bool.or_false, Bool.or_true, Bool.true_or, Bool.false_or, Bool.not_true, Bool.not_false, Bool.false_eq_true, if_true, if_false, St.put]) | ((with_reducible apply isTKn); apply TK_nil; (focus ((repeat (apply evCons; (focus (apply evZ_mk0; (focus rfl); (focus rfl); (focus rfl); rotate_left 3; (focus (simp only [go_sem, fillZ, pr, List.getD_cons_zero, List.getD_cons_succ, List.getD_nil, ls0, opnd, stay, anyL, clo, List.map_cons, List.map_nil, List.zip_cons_cons, List.zip_nil_left, List.zip_nil_right, List.append_nil, List.nil_append, List.cons_append, List.foldl_cons, List.foldl_nil, List.filter_cons, List.filter_nil, List.contains_nil, List.contains_cons, List.elem_nil, beq_self_eq_true, Nat.reduceBEq, Bool.or_false, Bool.or_true, Bool.true_or, Bool.false_or, Bool.not_true, Bool.not_false, Bool.false_eq_true, if_true, if_false, St.put, Int.reduceLT, Int.reduceLE, Int.reduceEq, Int.reduceToNat, hci2, hsol, hvl3]; try first | with_reducible rfl | ((repeat' apply And.intro) <;> first | omega | with_reducible rfl | trivial | rfl))); (all_goals try first | (simp [go_sem, hx, Int.reduceLT, Int.reduceLE, Int.reduceEq, Int.reduceToNat, hci2, hsol, hvl3]; done) | (intro e; first | (cases e; done) | (cases e; exact absurd (by assumption : V.solid .any = true) (by decide))) | (simp [go_sem, fillZ, pr, List.getD_cons_zero, List.getD_cons_succ, List.getD_nil, ls0, opnd, stay, anyL, clo, List.map_cons, List.map_nil, List.zip_cons_cons, List.zip_nil_left, List.zip_nil_right, List.append_nil, List.nil_append, List.cons_append, List.foldl_cons, List.foldl_nil, List.filter_cons, List.filter_nil, List.contains_nil, List.contains_cons, List.elem_nil, beq_self_eq_true, Nat.reduceBEq, Bool.or_false, Bool.or_true, Bool.true_or, Bool.false_or, Bool.not_true, Bool.not_false, Bool.false_eq_true, if_true, if_false, St.put]; done)))))); exact evNil)); try simp only [go_sem, fillZ, pr, List.getD_cons_zero, List.getD_cons_succ, List.getD_nil, ls0, opnd, stay, anyL, clo, List.map_cons, List.map_nil, List.zip_cons_cons, List.zip_nil_left, List.zip_nil_right, List.append_nil, List.nil_append, List.cons_append, List.foldl_cons, List.foldl_nil, List.filter_cons, List.filter_nil, List.contains_nil, List.contains_cons, List.elem_nil, beq_self_eq_true, Nat.reduceBEq, Bool.or_false, Bool.or_true, Bool.true_or, Bool.false_or, Bool.not_true, Bool.not_false, Bool.false_eq_true, if_true, if_false, St.put, Int.reduceLT, Int.reduceLE, Int.reduceEq, Int.reduceToNat, hci2, hsol, hvl3]) )
    refine ret_one hq hw _ (.inl rfl) 1 rfl (by rw [flat_i64.lts]; trivial) (.t [.s H.length 0 l.length (.u 0), .v (.int .i64 (allJ (inO l (locO l (plainL l.length))))), .v (.int .i64 0)]) (by simp [go_sem] <;> rfl) ?_
    simp [go_sem, conc, concs, upσ, Cap.val, ← hloc, hlo]
  · have hz1 : ((selO l o).2 = 0) = False := eq_false hz
    have h0 : 0 < (selO l o).2 := by have := hs0.1; omega
    obtain ⟨g1, g2, g3⟩ := hs0.2 h0
    have hnx := next_less hz
    have hnr := allJ_range (inO l (nextO l o))
    have hrv := reverseI (H := H ++ [⟨[v], 25, .fix⟩, ⟨(o).flatMap i64C, 2, .own 1⟩, ⟨[.s (H.length + 1) 0 l.length (.u 0)], 27, .fix⟩]) (bi := H.length + 1) (a := (selO l o).1.1) (n := (selO l o).1.2 + 1 - (selO l o).1.1) (c := .i (selO l o).1.1) (L := o) (by exact (Go.Sx.get_at _ _ 1).trans rfl ) rfl (by omega) (by omega)
    rw [revW_turn o g1 (by omega)] at hrv
    have hno : turnL o (selO l o).1.1 (selO l o).1.2 = nextO l o := rfl
    rw [hno] at hrv
    have cd : ((0 : Int) < ((selO l o).1.1 : Int) ∧ ((selO l o).1.1 : Int) = (l.length : Int)) = False := eq_false (by omega)
    have tk : (((selO l o).1.2 : Int) + 1).toNat = (selO l o).1.2 + 1 := by omega
    have hfl : (o.flatMap i64C).length = o.length := by rw [flat_i64.flen, Nat.mul_one]
    repeat (first | (simp only [go_sem, Int.reduceLT, Int.reduceLE, Int.reduceEq, Int.reduceToNat, hci2, hz1, cd, tk, if_false, hfl, hol]) | ((with_reducible refine And.intro ?_ ?_); omega) | ((with_reducible refine isSK ?_); refine call_ret (hrv) ?_ ?_) )
    refine EK_again (nextO l o) (Weak.slots ?_) ⟨ord_turn ho (by omega), by rw [← hloc, locO_next hz]⟩ (by omega)
    simp [go_sem]
end Go.Proofs.YtaekjojblkhfdaaGreatDoor
