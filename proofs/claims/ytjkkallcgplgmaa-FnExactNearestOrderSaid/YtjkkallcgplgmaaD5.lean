/- Contracts of functions of the translated program, by the walk. -/
import Derived.Test.YtjkkallcgplgmaaD4
import Derived.Test.YtjkkallcgplgmaaB3
set_option linter.unusedVariables false
set_option linter.unusedSimpArgs false
set_option maxRecDepth 8000
set_option maxHeartbeats 4000000
namespace Go.Proofs.Ytjkkallcgplgmaa
open Go Go.Sx
/-- The nearest page that is not in the order, of the first k ones. -/
def nbT (l : List (Nat → Int)) (now : Nat) (o : List Int) : Nat → Int
  | 0 => -1
  | k + 1 => if hasI o k = false ∧ (nbT l now o k < 0 ∨ jmp l now k < jmp l now (nbT l now o k).toNat) then (k : Int) else nbT l now o k
theorem nbT_range (l : List (Nat → Int)) (now : Nat) (o : List Int) : ∀ k, -1 ≤ nbT l now o k ∧ nbT l now o k < k
  | 0 => by simp [nbT]
  | k + 1 => by
    have := nbT_range l now o k
    unfold nbT; split <;> omega
theorem nbT_found {l : List (Nat → Int)} {now : Nat} {o : List Int} {j : Nat} (h : hasI o j = false) : ∀ k, j < k → 0 ≤ nbT l now o k
  | 0, hk => by omega
  | k + 1, hk => by
    by_cases e : j = k
    · subst e
      unfold nbT
      split
      · omega
      · rename_i h2
        by_cases e2 : nbT l now o j < 0
        · exact absurd ⟨h, .inl e2⟩ h2
        · omega
    · have ih := nbT_found (l := l) (now := now) h k (by omega)
      unfold nbT; split <;> omega
theorem pigeon : ∀ (n : Nat) (o : List Int), (∀ k : Nat, k < n → (k : Int) ∈ o) → n ≤ o.length
  | 0, _, _ => Nat.zero_le _
  | n + 1, o, h => by
    have h1 := h n (by omega)
    have h2 := pigeon n (o.erase n) fun k hk => (List.mem_erase_of_ne (by omega)).2 (h k (by omega))
    rw [List.length_erase_of_mem h1] at h2
    have := List.length_pos_of_mem h1
    omega
theorem nbT_ok {l : List (Nat → Int)} {now : Nat} {o : List Int} (h : o.length < l.length) : 0 ≤ nbT l now o l.length ∧ nbT l now o l.length < l.length := by
  refine ⟨?_, (nbT_range l now o l.length).2⟩
  apply Int.not_lt.1
  intro hn
  have := pigeon l.length o fun k hk => by
    apply hasI_iff.1
    cases e : hasI o k
    · have := nbT_found (l := l) (now := now) e l.length hk; omega
    · rfl
  omega
/-- The order that goes to the nearest page. -/
def noT (l : List (Nat → Int)) (p : Int) : Nat → List Int
  | 0 => [p]
  | n + 1 => noT l p n ++ [nbT l ((noT l p n)[n]?.getD 0).toNat (noT l p n) l.length]
theorem noT_len (l : List (Nat → Int)) (p : Int) : ∀ n, (noT l p n).length = n + 1
  | 0 => rfl
  | n + 1 => by unfold noT; rw [List.length_append, noT_len l p n]; rfl
theorem noT_ok {l : List (Nat → Int)} {p : Int} (hp : 0 ≤ p ∧ p < l.length) : ∀ n, n < l.length → okI l (noT l p n)
  | 0, _ => fun k hk => by simp [noT] at hk; omega
  | n + 1, hn => fun k hk => by
    unfold noT at hk
    rcases List.mem_append.1 hk with hk | hk
    · exact noT_ok hp n (by omega) k hk
    · simp only [List.mem_singleton] at hk
      have := nbT_ok (l := l) (now := ((noT l p n)[n]?.getD 0).toNat) (o := noT l p n) (by rw [noT_len]; exact hn)
      omega
def nowT (l : List (Nat → Int)) (p : Int) (n : Nat) : Nat := ((noT l p n)[n]?.getD 0).toNat
theorem nowT_lt {l : List (Nat → Int)} {p : Int} (hp : 0 ≤ p ∧ p < l.length) {n : Nat} (hn : n < l.length) : nowT l p n < l.length := by
  have hlen := noT_len l p n
  have := noT_ok hp n hn _ (List.getElem_mem (show n < (noT l p n).length by omega))
  unfold nowT
  rw [List.getElem?_eq_getElem (by omega)]
  simp only [Option.getD_some]; omega
theorem noT_succ (l : List (Nat → Int)) (p : Int) (n : Nat) : noT l p (n + 1) = noT l p n ++ [nbT l (nowT l p n) (noT l p n) l.length] := rfl
theorem noT_cel {l : List (Nat → Int)} {p : Int} (hp : 0 ≤ p ∧ p < l.length) {n : Nat} (hn : n < l.length) : cel ((noT l p n).flatMap i64C) n = .v (.int .i64 (nowT l p n)) := by
  have hlen := noT_len l p n
  have h0 := noT_ok hp n hn _ (List.getElem_mem (show n < (noT l p n).length by omega))
  have hcel := (At.mk0 (H := []) (L := []) (cs := (noT l p n).flatMap i64C) (t := 0) (k := .own 1) rfl).i64 (show n < (noT l p n).length by omega)
  simp only [Nat.zero_add] at hcel
  have e : (nowT l p n : Int) = (noT l p n)[n] := by
    unfold nowT
    rw [List.getElem?_eq_getElem (by omega)]
    simp only [Option.getD_some]; omega
  rw [e]; exact hcel
def lsT (l : List (Nat → Int)) (now : Nat) (b : Int) : Int := if b < 0 then 0 else jmp l now b.toNat
def noL (l : List (Nat → Int)) (p : Int) : List Int := noT l p (l.length - 1)
theorem implNearestOrder_err {H : List Blk} {v : V} {l : List (Nat → Int)} {p : Int} (h : Rd H v (rowL .u16 12) l) (hl : l.length ≤ 1000000) (hc : pageC l p ≠ 0) :
    Cal Try.prog 37 [v, .v (.int .i64 p)] H fun u H' => u = .t [.v (.slice none 0 0), .v (.int .i64 0), .v (.int .i64 (pageC l p))] ∧ H' = H := by
  have hsol := h.solid
  refine cal_fn 70 mixed Try.func37 Try.ntmps37 Try.results37 rfl rfl rfl fun hw cx hx hq => ?_
  repeat (first | (simp only [go_sem, Int.reduceLT, Int.reduceLE, Int.reduceEq, Int.reduceToNat, hsol, hc]) | ((with_reducible refine And.intro ?_ ?_); omega) | ((with_reducible refine isSK ?_); first | (refine call_ret (checkPage h (by omega)) (by simp only [go_sem, Int.reduceLT, Int.reduceLE, Int.reduceEq, Int.reduceToNat, hsol, hc]) ?_)) | ((with_reducible refine isMC ?_); first | (refine mcall_ret (checkPage h (by omega)) (by simp only [go_sem, Int.reduceLT, Int.reduceLE, Int.reduceEq, Int.reduceToNat, hsol, hc]) (by simp only [go_sem, Int.reduceLT, Int.reduceLE, Int.reduceEq, Int.reduceToNat, hsol, hc]) ?_)) | ((with_reducible refine isWKr (id := 6) ?_); refine WK_drawAt 6 [[],[],[],[2],[2,3],[1,2,3,4],[1,2,3,4,5],[0,1,2,3,4,5,6],[0,1,2,3,4,5,6,7],[],[9],[9,10],[0,1,2,3,4,5,6,7,8,9,10,11]] (by kernel_rfl) ?_) | ((with_reducible refine isWKr (id := 10) ?_); refine WK_drawAt 10 [[],[],[],[1,2],[1,2,3],[0,1,2,3,4],[0,1,2,3,4,5]] (by kernel_rfl) ?_) | ((with_reducible refine And.intro ?_ ?_); first | (with_reducible rfl) | assumption | (simp only [go_sem]; done)))
  refine ret_same hq _ (.inl rfl) ?_
  simp [go_sem]
theorem specNearestOrder_err {H : List Blk} {v : V} {l : List (Nat → Int)} {p : Int} (h : Rd H v (rowL .u16 12) l) (hl : l.length ≤ 1000000) (hc : pageC l p ≠ 0) :
    Cal Try.prog 36 [v, .v (.int .i64 p)] H fun u H' => u = .t [.s H.length 0 0 (.u 0), .v (.int .i64 0), .v (.int .i64 (pageC l p))] ∧ H' = H ++ [⟨[], 2, .own 1⟩] := by
  have hsol := h.solid
  refine cal_fn 65 mixed Try.func36 Try.ntmps36 Try.results36 rfl rfl rfl fun hw cx hx hq => ?_
  repeat (first | (simp only [go_sem, Int.reduceLT, Int.reduceLE, Int.reduceEq, Int.reduceToNat, hsol, hc]) | ((with_reducible refine And.intro ?_ ?_); omega) | ((with_reducible refine isSK ?_); first | (refine call_ret (l04Page h (by omega)) (by simp only [go_sem, Int.reduceLT, Int.reduceLE, Int.reduceEq, Int.reduceToNat, hsol, hc]) ?_)) | ((with_reducible refine isMC ?_); first | (refine mcall_ret (l04Page h (by omega)) (by simp only [go_sem, Int.reduceLT, Int.reduceLE, Int.reduceEq, Int.reduceToNat, hsol, hc]) (by simp only [go_sem, Int.reduceLT, Int.reduceLE, Int.reduceEq, Int.reduceToNat, hsol, hc]) ?_)) | ((with_reducible refine And.intro ?_ ?_); first | (with_reducible rfl) | assumption | (simp only [go_sem]; done)))
  refine ret_at hq _ (.inl rfl) (by simp) ?_
  simp [go_sem]
theorem pageC_ok {l : List (Nat → Int)} {p : Int} (h : pageC l p = 0) : okB l = true ∧ 0 ≤ p ∧ p < l.length := by
  unfold pageC at h
  split at h
  · rename_i e
    split at h
    · rename_i h2; simp at h2; exact ⟨e, by omega, by omega⟩
    · cases h
  · cases h
theorem implNearestOrder_ok {H : List Blk} {v : V} {l : List (Nat → Int)} {p : Int} (h : Rd H v (rowL .u16 12) l) (hR : ∀ f ∈ l, R16 f) (hl : l.length ≤ 1000000) (hc0 : pageC l p = 0) :
    Cal Try.prog 37 [v, .v (.int .i64 p)] H fun u H' => u = .t [.s H.length 0 (noL l p).length (.u 0), .v (.int .i64 (allJ (inO l (noL l p)))), .v (.int .i64 0)] ∧ H' = H ++ [⟨(noL l p).flatMap i64C, 2, .own 1⟩] := by
  have hsol := h.solid
  have hL := h.lenV (P := Try.prog) slTy27
  obtain ⟨hB, hp⟩ := pageC_ok hc0
  have h12 := okB_12 hB hR
  obtain ⟨i, off, c, b, rfl, hat⟩ := h.row (by omega)
  have hil := hat.lt
  refine cal_fn 70 mixed Try.func37 Try.ntmps37 Try.results37 rfl rfl rfl fun hw cx hx hq => ?_
  repeat (first | (simp only [go_sem, Int.reduceLT, Int.reduceLE, Int.reduceEq, Int.reduceToNat, hsol, hc0]) | ((with_reducible refine And.intro ?_ ?_); omega) | ((with_reducible refine isSK ?_); first | (refine call_ret (checkPage h (by omega)) (by simp only [go_sem, Int.reduceLT, Int.reduceLE, Int.reduceEq, Int.reduceToNat, hsol, hc0]) ?_)) | ((with_reducible refine isMC ?_); first | (refine mcall_ret (checkPage h (by omega)) (by simp only [go_sem, Int.reduceLT, Int.reduceLE, Int.reduceEq, Int.reduceToNat, hsol, hc0]) (by simp only [go_sem, Int.reduceLT, Int.reduceLE, Int.reduceEq, Int.reduceToNat, hsol, hc0]) ?_)) | ((with_reducible refine isWKr (id := 6) ?_); refine WK_drawAt 6 [[],[],[],[2],[2,3],[1,2,3,4],[1,2,3,4,5],[0,1,2,3,4,5,6],[0,1,2,3,4,5,6,7],[],[9],[9,10],[0,1,2,3,4,5,6,7,8,9,10,11]] (by kernel_rfl) ?_) | ((with_reducible refine isWKr (id := 10) ?_); refine WK_drawAt 10 [[],[],[],[1,2],[1,2,3],[0,1,2,3,4],[0,1,2,3,4,5]] (by kernel_rfl) ?_) | ((with_reducible refine And.intro ?_ ?_); first | (with_reducible rfl) | assumption | (simp only [go_sem]; done)))
  refine WK_for (fun n : Nat => ⟨[.s i off l.length c, .any, .any, .any, .any, .any, .any, .any, .s H.length 0 (noT l p n).length (.u 0)] ++ junk 63, H ++ [⟨(noT l p n).flatMap i64C, 2, .own 1⟩]⟩) (fun n => n ≤ l.length - 1) (fun n => l.length - n) 0 (Weak.slots ?_) ?_ fun n hn => ?_
  · simp [go_sem, noT]
  · simp
  have hlen := noT_len l p n
  have hlen2 : ((noT l p n).length : Int) = (n : Int) + 1 := by omega
  have hl2 : ((noT l p n).flatMap i64C).length = (noT l p n).length := by rw [flat_i64.flen, Nat.mul_one]
  have hn1 : norefH H.length H := norefH_wf hw (Nat.le_refl _)
  have hn2 : norefs H.length ((noT l p n).flatMap i64C) = true := flat_i64.norefs _ _
  have hij : (i = H.length) = False := eq_false (by omega)
  rcases Int.lt_or_le ((n : Int) + 1) l.length with hc | hc
  · have hnow := nowT_lt hp (show n < l.length by omega)
    have hcl := noT_cel hp (show n < l.length by omega)
    have hbk := nbT_ok (l := l) (now := nowT l p n) (o := noT l p n) (by omega)
    have a0 := hat.elem (rowL .u16 12) 12 hz12 hnow
    have f0 := hat.fits (rowL .u16 12) 12 hz12 hnow (by omega)
    rw [← pg_at] at a0
    have hsc := noT_succ l p n
    have t0 : ((n : Int) + 1 - 1).toNat = n := by omega
    generalize nowT l p n = now at hnow hcl hbk a0 f0 hsc
    have e4 : ((noT l p n).length : Int) - 1 = (n : Int) := by omega
    have e5 : (((noT l p n).length : Int) < (l.length : Int)) = True := eq_true (by omega)
    repeat (first | (simp only [go_sem, Int.reduceLT, Int.reduceLE, Int.reduceEq, Int.reduceToNat, hL, hc, e4, e5, t0, (get_app hat.get), hat.live, hcl, hl2, a0, rowL_rep]) | ((with_reducible refine And.intro ?_ ?_); omega) | ((with_reducible refine isWKr (id := 6) ?_); refine WK_drawAt 6 [[],[],[],[2],[2,3],[1,2,3,4],[1,2,3,4,5],[0,1,2,3,4,5,6],[0,1,2,3,4,5,6,7],[],[9],[9,10],[0,1,2,3,4,5,6,7,8,9,10,11]] (by kernel_rfl) ?_) | ((with_reducible refine isWKr (id := 10) ?_); refine WK_drawAt 10 [[],[],[],[1,2],[1,2,3],[0,1,2,3,4],[0,1,2,3,4,5]] (by kernel_rfl) ?_) | ((with_reducible refine And.intro ?_ ?_); first | (with_reducible rfl) | assumption | (simp only [go_sem]; done)))
    refine WK_for (fun k : Nat => ⟨[.s i off l.length c, .any, .any, .any, .any, .any, .any, .any, .s H.length 0 (noT l p n).length (.u 0), .v (.int .i64 (nbT l now (noT l p n) k)), .v (.int .i64 (lsT l now (nbT l now (noT l p n) k))), .p (H.length + 1) 0, .any, .any, .any, .any, .any, .any, .any, .any, .any, .any, .any, .any, .any, .any, .any, .any, .any, .any, .any, .any, .any, .any, .any, .any, .any, .v (.int .i64 l.length), .v (.int .i64 k)] ++ junk 33, H ++ [⟨(noT l p n).flatMap i64C, 2, .own 1⟩, ⟨rowL .u16 12 (pg l now), 64, .fix⟩]⟩) (fun k => k ≤ l.length) (fun k => l.length - k) 0 (Weak.slots ?_) ?_ fun k hk => ?_
    · simp [go_sem, nbT, lsT]
    · simp
    rcases Int.lt_or_le (k : Int) l.length with hc2 | hc2
    · have hk2 : k < l.length := by omega
      have a1 := hat.elem (rowL .u16 12) 12 hz12 hk2
      have f1 := hat.fits (rowL .u16 12) 12 hz12 hk2 (by omega)
      rw [← pg_at] at a1
      have hnr := nbT_range l now (noT l p n) k
      have hj : jumpF (pg l now) (pg l k) = jmp l now k := rfl
      have hs : nbT l now (noT l p n) (k + 1) = if hasI (noT l p n) k = false ∧ (nbT l now (noT l p n) k < 0 ∨ jmp l now k < jmp l now (nbT l now (noT l p n) k).toNat) then (k : Int) else nbT l now (noT l p n) k := rfl
      cases e6 : hasI (noT l p n) k
      · by_cases e7 : nbT l now (noT l p n) k < 0
        · rw [if_pos ⟨e6, .inl e7⟩] at hs
          have hls : lsT l now (k : Int) = jmp l now k := by unfold lsT; rw [if_neg (by omega)]; rfl
          repeat (first | (simp only [go_sem, Int.reduceLT, Int.reduceLE, Int.reduceEq, Int.reduceToNat, hc2, (get_app hat.get), hat.live, a1, hj, e6, e7, rowL_rep]) | ((with_reducible refine And.intro ?_ ?_); omega) | ((with_reducible refine isSK ?_); first | (refine call_ret (jump (pg_12 h12 _) (pg_12 h12 _)) (by simp only [go_sem, Int.reduceLT, Int.reduceLE, Int.reduceEq, Int.reduceToNat, hc2, (get_app hat.get), hat.live, a1, hj, e6, e7, rowL_rep]) ?_) | (refine call_ret (slicesHas (l := noT l p n) (Rd.own0 rfl rfl rfl) (by omega)) (by simp only [go_sem, Int.reduceLT, Int.reduceLE, Int.reduceEq, Int.reduceToNat, hc2, (get_app hat.get), hat.live, a1, hj, e6, e7, rowL_rep]) ?_)) | ((with_reducible refine isMC ?_); first | (refine mcall_ret (jump (pg_12 h12 _) (pg_12 h12 _)) (by simp only [go_sem, Int.reduceLT, Int.reduceLE, Int.reduceEq, Int.reduceToNat, hc2, (get_app hat.get), hat.live, a1, hj, e6, e7, rowL_rep]) (by simp only [go_sem, Int.reduceLT, Int.reduceLE, Int.reduceEq, Int.reduceToNat, hc2, (get_app hat.get), hat.live, a1, hj, e6, e7, rowL_rep]) ?_) | (refine mcall_ret (slicesHas (l := noT l p n) (Rd.own0 rfl rfl rfl) (by omega)) (by simp only [go_sem, Int.reduceLT, Int.reduceLE, Int.reduceEq, Int.reduceToNat, hc2, (get_app hat.get), hat.live, a1, hj, e6, e7, rowL_rep]) (by simp only [go_sem, Int.reduceLT, Int.reduceLE, Int.reduceEq, Int.reduceToNat, hc2, (get_app hat.get), hat.live, a1, hj, e6, e7, rowL_rep]) ?_)) | ((with_reducible refine isWKr (id := 6) ?_); refine WK_drawAt 6 [[],[],[],[2],[2,3],[1,2,3,4],[1,2,3,4,5],[0,1,2,3,4,5,6],[0,1,2,3,4,5,6,7],[],[9],[9,10],[0,1,2,3,4,5,6,7,8,9,10,11]] (by kernel_rfl) ?_) | ((with_reducible refine isWKr (id := 10) ?_); refine WK_drawAt 10 [[],[],[],[1,2],[1,2,3],[0,1,2,3,4],[0,1,2,3,4,5]] (by kernel_rfl) ?_) | ((with_reducible refine And.intro ?_ ?_); first | (with_reducible rfl) | assumption | (simp only [go_sem]; done)))
          refine EK_again (k + 1) ?_ (by omega) (by omega)
          rw [hs, hls]
          exact Weak.slots (by simp [go_sem])
        · have hlb : lsT l now (nbT l now (noT l p n) k) = jmp l now (nbT l now (noT l p n) k).toNat := if_neg e7
          by_cases e8 : jmp l now k < jmp l now (nbT l now (noT l p n) k).toNat
          · rw [if_pos ⟨e6, .inr e8⟩] at hs
            have hls : lsT l now (k : Int) = jmp l now k := by unfold lsT; rw [if_neg (by omega)]; rfl
            repeat (first | (simp only [go_sem, Int.reduceLT, Int.reduceLE, Int.reduceEq, Int.reduceToNat, hc2, (get_app hat.get), hat.live, a1, hj, e6, e7, hlb, e8, rowL_rep]) | ((with_reducible refine And.intro ?_ ?_); omega) | ((with_reducible refine isSK ?_); first | (refine call_ret (jump (pg_12 h12 _) (pg_12 h12 _)) (by simp only [go_sem, Int.reduceLT, Int.reduceLE, Int.reduceEq, Int.reduceToNat, hc2, (get_app hat.get), hat.live, a1, hj, e6, e7, hlb, e8, rowL_rep]) ?_) | (refine call_ret (slicesHas (l := noT l p n) (Rd.own0 rfl rfl rfl) (by omega)) (by simp only [go_sem, Int.reduceLT, Int.reduceLE, Int.reduceEq, Int.reduceToNat, hc2, (get_app hat.get), hat.live, a1, hj, e6, e7, hlb, e8, rowL_rep]) ?_)) | ((with_reducible refine isMC ?_); first | (refine mcall_ret (jump (pg_12 h12 _) (pg_12 h12 _)) (by simp only [go_sem, Int.reduceLT, Int.reduceLE, Int.reduceEq, Int.reduceToNat, hc2, (get_app hat.get), hat.live, a1, hj, e6, e7, hlb, e8, rowL_rep]) (by simp only [go_sem, Int.reduceLT, Int.reduceLE, Int.reduceEq, Int.reduceToNat, hc2, (get_app hat.get), hat.live, a1, hj, e6, e7, hlb, e8, rowL_rep]) ?_) | (refine mcall_ret (slicesHas (l := noT l p n) (Rd.own0 rfl rfl rfl) (by omega)) (by simp only [go_sem, Int.reduceLT, Int.reduceLE, Int.reduceEq, Int.reduceToNat, hc2, (get_app hat.get), hat.live, a1, hj, e6, e7, hlb, e8, rowL_rep]) (by simp only [go_sem, Int.reduceLT, Int.reduceLE, Int.reduceEq, Int.reduceToNat, hc2, (get_app hat.get), hat.live, a1, hj, e6, e7, hlb, e8, rowL_rep]) ?_)) | ((with_reducible refine isWKr (id := 6) ?_); refine WK_drawAt 6 [[],[],[],[2],[2,3],[1,2,3,4],[1,2,3,4,5],[0,1,2,3,4,5,6],[0,1,2,3,4,5,6,7],[],[9],[9,10],[0,1,2,3,4,5,6,7,8,9,10,11]] (by kernel_rfl) ?_) | ((with_reducible refine isWKr (id := 10) ?_); refine WK_drawAt 10 [[],[],[],[1,2],[1,2,3],[0,1,2,3,4],[0,1,2,3,4,5]] (by kernel_rfl) ?_) | ((with_reducible refine And.intro ?_ ?_); first | (with_reducible rfl) | assumption | (simp only [go_sem]; done)))
            refine EK_again (k + 1) ?_ (by omega) (by omega)
            rw [hs, hls]
            exact Weak.slots (by simp [go_sem])
          · rw [if_neg (by rintro ⟨_, h1 | h1⟩ <;> contradiction)] at hs
            repeat (first | (simp only [go_sem, Int.reduceLT, Int.reduceLE, Int.reduceEq, Int.reduceToNat, hc2, (get_app hat.get), hat.live, a1, hj, e6, e7, hlb, e8, rowL_rep]) | ((with_reducible refine And.intro ?_ ?_); omega) | ((with_reducible refine isSK ?_); first | (refine call_ret (jump (pg_12 h12 _) (pg_12 h12 _)) (by simp only [go_sem, Int.reduceLT, Int.reduceLE, Int.reduceEq, Int.reduceToNat, hc2, (get_app hat.get), hat.live, a1, hj, e6, e7, hlb, e8, rowL_rep]) ?_) | (refine call_ret (slicesHas (l := noT l p n) (Rd.own0 rfl rfl rfl) (by omega)) (by simp only [go_sem, Int.reduceLT, Int.reduceLE, Int.reduceEq, Int.reduceToNat, hc2, (get_app hat.get), hat.live, a1, hj, e6, e7, hlb, e8, rowL_rep]) ?_)) | ((with_reducible refine isMC ?_); first | (refine mcall_ret (jump (pg_12 h12 _) (pg_12 h12 _)) (by simp only [go_sem, Int.reduceLT, Int.reduceLE, Int.reduceEq, Int.reduceToNat, hc2, (get_app hat.get), hat.live, a1, hj, e6, e7, hlb, e8, rowL_rep]) (by simp only [go_sem, Int.reduceLT, Int.reduceLE, Int.reduceEq, Int.reduceToNat, hc2, (get_app hat.get), hat.live, a1, hj, e6, e7, hlb, e8, rowL_rep]) ?_) | (refine mcall_ret (slicesHas (l := noT l p n) (Rd.own0 rfl rfl rfl) (by omega)) (by simp only [go_sem, Int.reduceLT, Int.reduceLE, Int.reduceEq, Int.reduceToNat, hc2, (get_app hat.get), hat.live, a1, hj, e6, e7, hlb, e8, rowL_rep]) (by simp only [go_sem, Int.reduceLT, Int.reduceLE, Int.reduceEq, Int.reduceToNat, hc2, (get_app hat.get), hat.live, a1, hj, e6, e7, hlb, e8, rowL_rep]) ?_)) | ((with_reducible refine isWKr (id := 6) ?_); refine WK_drawAt 6 [[],[],[],[2],[2,3],[1,2,3,4],[1,2,3,4,5],[0,1,2,3,4,5,6],[0,1,2,3,4,5,6,7],[],[9],[9,10],[0,1,2,3,4,5,6,7,8,9,10,11]] (by kernel_rfl) ?_) | ((with_reducible refine isWKr (id := 10) ?_); refine WK_drawAt 10 [[],[],[],[1,2],[1,2,3],[0,1,2,3,4],[0,1,2,3,4,5]] (by kernel_rfl) ?_) | ((with_reducible refine And.intro ?_ ?_); first | (with_reducible rfl) | assumption | (simp only [go_sem]; done)))
            refine EK_again (k + 1) ?_ (by omega) (by omega)
            rw [hs, hlb]
            exact Weak.slots (by simp [go_sem])
      · rw [if_neg (by rintro ⟨h1, _⟩; rw [e6] at h1; cases h1)] at hs
        repeat (first | (simp only [go_sem, Int.reduceLT, Int.reduceLE, Int.reduceEq, Int.reduceToNat, hc2, (get_app hat.get), hat.live, a1, hj, e6, rowL_rep]) | ((with_reducible refine And.intro ?_ ?_); omega) | ((with_reducible refine isSK ?_); first | (refine call_ret (jump (pg_12 h12 _) (pg_12 h12 _)) (by simp only [go_sem, Int.reduceLT, Int.reduceLE, Int.reduceEq, Int.reduceToNat, hc2, (get_app hat.get), hat.live, a1, hj, e6, rowL_rep]) ?_) | (refine call_ret (slicesHas (l := noT l p n) (Rd.own0 rfl rfl rfl) (by omega)) (by simp only [go_sem, Int.reduceLT, Int.reduceLE, Int.reduceEq, Int.reduceToNat, hc2, (get_app hat.get), hat.live, a1, hj, e6, rowL_rep]) ?_)) | ((with_reducible refine isMC ?_); first | (refine mcall_ret (jump (pg_12 h12 _) (pg_12 h12 _)) (by simp only [go_sem, Int.reduceLT, Int.reduceLE, Int.reduceEq, Int.reduceToNat, hc2, (get_app hat.get), hat.live, a1, hj, e6, rowL_rep]) (by simp only [go_sem, Int.reduceLT, Int.reduceLE, Int.reduceEq, Int.reduceToNat, hc2, (get_app hat.get), hat.live, a1, hj, e6, rowL_rep]) ?_) | (refine mcall_ret (slicesHas (l := noT l p n) (Rd.own0 rfl rfl rfl) (by omega)) (by simp only [go_sem, Int.reduceLT, Int.reduceLE, Int.reduceEq, Int.reduceToNat, hc2, (get_app hat.get), hat.live, a1, hj, e6, rowL_rep]) (by simp only [go_sem, Int.reduceLT, Int.reduceLE, Int.reduceEq, Int.reduceToNat, hc2, (get_app hat.get), hat.live, a1, hj, e6, rowL_rep]) ?_)) | ((with_reducible refine isWKr (id := 6) ?_); refine WK_drawAt 6 [[],[],[],[2],[2,3],[1,2,3,4],[1,2,3,4,5],[0,1,2,3,4,5,6],[0,1,2,3,4,5,6,7],[],[9],[9,10],[0,1,2,3,4,5,6,7,8,9,10,11]] (by kernel_rfl) ?_) | ((with_reducible refine isWKr (id := 10) ?_); refine WK_drawAt 10 [[],[],[],[1,2],[1,2,3],[0,1,2,3,4],[0,1,2,3,4,5]] (by kernel_rfl) ?_) | ((with_reducible refine And.intro ?_ ?_); first | (with_reducible rfl) | assumption | (simp only [go_sem]; done)))
        refine EK_again (k + 1) ?_ (by omega) (by omega)
        rw [hs]
        exact Weak.slots (by simp [go_sem])
    · have : k = l.length := by omega
      subst this
      have hd1 : (H.length + 1 = H.length) = False := eq_false (by omega)
      have hd2 : (H.length + 2 = H.length) = False := eq_false (by omega)
      repeat (first | (simp only [go_sem, Int.reduceLT, Int.reduceLE, Int.reduceEq, Int.reduceToNat, Int.not_lt.2 hc2, hl2, hn1, hn2, hij, hd1, hd2, hx]) | ((with_reducible refine And.intro ?_ ?_); omega) | ((with_reducible refine isWKr (id := 6) ?_); refine WK_drawAt 6 [[],[],[],[2],[2,3],[1,2,3,4],[1,2,3,4,5],[0,1,2,3,4,5,6],[0,1,2,3,4,5,6,7],[],[9],[9,10],[0,1,2,3,4,5,6,7,8,9,10,11]] (by kernel_rfl) ?_) | ((with_reducible refine isWKr (id := 10) ?_); refine WK_drawAt 10 [[],[],[],[1,2],[1,2,3],[0,1,2,3,4],[0,1,2,3,4,5]] (by kernel_rfl) ?_) | ((with_reducible refine And.intro ?_ ?_); first | (with_reducible rfl) | assumption | (simp only [go_sem]; done)))
      refine EK_again (n + 1) ?_ (by omega) (by omega)
      rw [hsc, flat_snoc]
      exact Weak.keepN rfl (by simp [go_sem]) (by simp [hx]) (by simp [go_sem, hil, flat_i64.lts, i64C] <;> omega) (hw.app (by simp [go_sem, hil, flat_i64.lts, i64C] <;> omega))
  · have hn3 : n = l.length - 1 := by omega
    have hno : noT l p n = noL l p := by rw [hn3]; rfl
    have e5 : (((noL l p).length : Int) < (l.length : Int)) = False := eq_false (by rw [← hno]; omega)
    rw [hno] at hlen hlen2 hl2 hn2 ⊢
    have hok : okI l (noL l p) := hno ▸ noT_ok hp n (by omega)
    have hio := inO_len l (noL l p)
    repeat (first | (simp only [go_sem, Int.reduceLT, Int.reduceLE, Int.reduceEq, Int.reduceToNat, hL, e5]) | ((with_reducible refine And.intro ?_ ?_); omega) | ((with_reducible refine isSK ?_); first | (refine call_ret (inOrder (l := l) (o := noL l p) h.app (Rd.own0 rfl rfl rfl) hok (by omega)) (by simp only [go_sem, Int.reduceLT, Int.reduceLE, Int.reduceEq, Int.reduceToNat, hL, e5]) ?_) | (refine call_ret (allJumps (l := inO l (noL l p)) (by first | exact h | exact h.app | exact he | exact he.app | exact h2e | exact h2e.app |  exact h2 | exact h2.app | exact Rd.fill0 rfl (by rfl) (by first | rfl | simp) | exact Rd.own0 rfl (by rfl) (by first | rfl | simp) | exact Rd.nil _ _ | exact Rd.nilE (by assumption) | exact Rd.fill 1 rfl (by rfl) (by first | rfl | simp) | exact Rd.own 1 rfl (by rfl) (by first | rfl | simp) | exact Rd.fill 2 rfl (by rfl) (by first | rfl | simp) | exact Rd.own 2 rfl (by rfl) (by first | rfl | simp) | exact Rd.fill 3 rfl (by rfl) (by first | rfl | simp) | exact Rd.own 3 rfl (by rfl) (by first | rfl | simp) | exact Rd.fill 4 rfl (by rfl) (by first | rfl | simp) | exact Rd.own 4 rfl (by rfl) (by first | rfl | simp) | exact Rd.fill 5 rfl (by rfl) (by first | rfl | simp) | exact Rd.own 5 rfl (by rfl) (by first | rfl | simp) | exact Rd.fill 6 rfl (by rfl) (by first | rfl | simp) | exact Rd.own 6 rfl (by rfl) (by first | rfl | simp) | exact Rd.fill 7 rfl (by rfl) (by first | rfl | simp) | exact Rd.own 7 rfl (by rfl) (by first | rfl | simp) | exact Rd.fill 8 rfl (by rfl) (by first | rfl | simp) | exact Rd.own 8 rfl (by rfl) (by first | rfl | simp) | exact Rd.fill 9 rfl (by rfl) (by first | rfl | simp) | exact Rd.own 9 rfl (by rfl) (by first | rfl | simp) | exact Rd.fill 10 rfl (by rfl) (by first | rfl | simp) | exact Rd.own 10 rfl (by rfl) (by first | rfl | simp) | exact Rd.fill 11 rfl (by rfl) (by first | rfl | simp) | exact Rd.own 11 rfl (by rfl) (by first | rfl | simp) | exact Rd.fill 12 rfl (by rfl) (by first | rfl | simp) | exact Rd.own 12 rfl (by rfl) (by first | rfl | simp) | exact Rd.fill 13 rfl (by rfl) (by first | rfl | simp) | exact Rd.own 13 rfl (by rfl) (by first | rfl | simp) | exact Rd.fill 14 rfl (by rfl) (by first | rfl | simp) | exact Rd.own 14 rfl (by rfl) (by first | rfl | simp) | exact Rd.fill 15 rfl (by rfl) (by first | rfl | simp) | exact Rd.own 15 rfl (by rfl) (by first | rfl | simp)) (inO_12 h12 _) (by omega)) (by simp only [go_sem, Int.reduceLT, Int.reduceLE, Int.reduceEq, Int.reduceToNat, hL, e5]) ?_)) | ((with_reducible refine isMC ?_); first | (refine mcall_ret (inOrder (l := l) (o := noL l p) h.app (Rd.own0 rfl rfl rfl) hok (by omega)) (by simp only [go_sem, Int.reduceLT, Int.reduceLE, Int.reduceEq, Int.reduceToNat, hL, e5]) (by simp only [go_sem, Int.reduceLT, Int.reduceLE, Int.reduceEq, Int.reduceToNat, hL, e5]) ?_) | (refine mcall_ret (allJumps (l := inO l (noL l p)) (by first | exact h | exact h.app | exact he | exact he.app | exact h2e | exact h2e.app |  exact h2 | exact h2.app | exact Rd.fill0 rfl (by rfl) (by first | rfl | simp) | exact Rd.own0 rfl (by rfl) (by first | rfl | simp) | exact Rd.nil _ _ | exact Rd.nilE (by assumption) | exact Rd.fill 1 rfl (by rfl) (by first | rfl | simp) | exact Rd.own 1 rfl (by rfl) (by first | rfl | simp) | exact Rd.fill 2 rfl (by rfl) (by first | rfl | simp) | exact Rd.own 2 rfl (by rfl) (by first | rfl | simp) | exact Rd.fill 3 rfl (by rfl) (by first | rfl | simp) | exact Rd.own 3 rfl (by rfl) (by first | rfl | simp) | exact Rd.fill 4 rfl (by rfl) (by first | rfl | simp) | exact Rd.own 4 rfl (by rfl) (by first | rfl | simp) | exact Rd.fill 5 rfl (by rfl) (by first | rfl | simp) | exact Rd.own 5 rfl (by rfl) (by first | rfl | simp) | exact Rd.fill 6 rfl (by rfl) (by first | rfl | simp) | exact Rd.own 6 rfl (by rfl) (by first | rfl | simp) | exact Rd.fill 7 rfl (by rfl) (by first | rfl | simp) | exact Rd.own 7 rfl (by rfl) (by first | rfl | simp) | exact Rd.fill 8 rfl (by rfl) (by first | rfl | simp) | exact Rd.own 8 rfl (by rfl) (by first | rfl | simp) | exact Rd.fill 9 rfl (by rfl) (by first | rfl | simp) | exact Rd.own 9 rfl (by rfl) (by first | rfl | simp) | exact Rd.fill 10 rfl (by rfl) (by first | rfl | simp) | exact Rd.own 10 rfl (by rfl) (by first | rfl | simp) | exact Rd.fill 11 rfl (by rfl) (by first | rfl | simp) | exact Rd.own 11 rfl (by rfl) (by first | rfl | simp) | exact Rd.fill 12 rfl (by rfl) (by first | rfl | simp) | exact Rd.own 12 rfl (by rfl) (by first | rfl | simp) | exact Rd.fill 13 rfl (by rfl) (by first | rfl | simp) | exact Rd.own 13 rfl (by rfl) (by first | rfl | simp) | exact Rd.fill 14 rfl (by rfl) (by first | rfl | simp) | exact Rd.own 14 rfl (by rfl) (by first | rfl | simp) | exact Rd.fill 15 rfl (by rfl) (by first | rfl | simp) | exact Rd.own 15 rfl (by rfl) (by first | rfl | simp)) (inO_12 h12 _) (by omega)) (by simp only [go_sem, Int.reduceLT, Int.reduceLE, Int.reduceEq, Int.reduceToNat, hL, e5]) (by simp only [go_sem, Int.reduceLT, Int.reduceLE, Int.reduceEq, Int.reduceToNat, hL, e5]) ?_)) | ((with_reducible refine isWKr (id := 6) ?_); refine WK_drawAt 6 [[],[],[],[2],[2,3],[1,2,3,4],[1,2,3,4,5],[0,1,2,3,4,5,6],[0,1,2,3,4,5,6,7],[],[9],[9,10],[0,1,2,3,4,5,6,7,8,9,10,11]] (by kernel_rfl) ?_) | ((with_reducible refine isWKr (id := 10) ?_); refine WK_drawAt 10 [[],[],[],[1,2],[1,2,3],[0,1,2,3,4],[0,1,2,3,4,5]] (by kernel_rfl) ?_) | ((with_reducible refine And.intro ?_ ?_); first | (with_reducible rfl) | assumption | (simp only [go_sem]; done)))
    refine ret_one hq hw _ (.inl rfl) 0 rfl (of_eq_true (flat_i64.lts _ _)) (.t [.s H.length 0 (noL l p).length (.u 0), .v (.int .i64 (allJ (inO l (noL l p)))), .v (.int .i64 0)]) (by simp [go_sem]) ?_
    simp [go_sem, conc, concs, upσ, Cap.val]
theorem specNearestOrder_ok {H : List Blk} {v : V} {l : List (Nat → Int)} {p : Int} (h : Rd H v (rowL .u16 12) l) (hR : ∀ f ∈ l, R16 f) (hl : l.length ≤ 1000000) (hc0 : pageC l p = 0) :
    Cal Try.prog 36 [v, .v (.int .i64 p)] H fun u H' => u = .t [.s H.length 0 (noL l p).length (.u 0), .v (.int .i64 (allJ (inO l (noL l p)))), .v (.int .i64 0)] ∧ H' = H ++ [⟨(noL l p).flatMap i64C, 2, .own 1⟩] := by
  have hsol := h.solid
  have hL := h.lenV (P := Try.prog) slTy27
  obtain ⟨hB, hp⟩ := pageC_ok hc0
  have h12 := okB_12 hB hR
  obtain ⟨i, off, c, b, rfl, hat⟩ := h.row (by omega)
  have hil := hat.lt
  refine cal_fn 65 mixed Try.func36 Try.ntmps36 Try.results36 rfl rfl rfl fun hw cx hx hq => ?_
  repeat (first | (simp only [go_sem, Int.reduceLT, Int.reduceLE, Int.reduceEq, Int.reduceToNat, hsol, hc0]) | ((with_reducible refine And.intro ?_ ?_); omega) | ((with_reducible refine isSK ?_); first | (refine call_ret (l04Page h (by omega)) (by simp only [go_sem, Int.reduceLT, Int.reduceLE, Int.reduceEq, Int.reduceToNat, hsol, hc0]) ?_)) | ((with_reducible refine isMC ?_); first | (refine mcall_ret (l04Page h (by omega)) (by simp only [go_sem, Int.reduceLT, Int.reduceLE, Int.reduceEq, Int.reduceToNat, hsol, hc0]) (by simp only [go_sem, Int.reduceLT, Int.reduceLE, Int.reduceEq, Int.reduceToNat, hsol, hc0]) ?_)) | ((with_reducible refine And.intro ?_ ?_); first | (with_reducible rfl) | assumption | (simp only [go_sem]; done)))
  refine WK_for (fun n : Nat => ⟨[.s i off l.length c, .any, .any, .any, .any, .any, .any, .any, .s H.length 0 (noT l p n).length (.u 0)] ++ junk 58, H ++ [⟨(noT l p n).flatMap i64C, 2, .own 1⟩]⟩) (fun n => n ≤ l.length - 1) (fun n => l.length - n) 0 (Weak.slots ?_) ?_ fun n hn => ?_
  · simp [go_sem, noT]
  · simp
  have hlen := noT_len l p n
  have hlen2 : ((noT l p n).length : Int) = (n : Int) + 1 := by omega
  have hl2 : ((noT l p n).flatMap i64C).length = (noT l p n).length := by rw [flat_i64.flen, Nat.mul_one]
  have hn1 : norefH H.length H := norefH_wf hw (Nat.le_refl _)
  have hn2 : norefs H.length ((noT l p n).flatMap i64C) = true := flat_i64.norefs _ _
  have hij : (i = H.length) = False := eq_false (by omega)
  rcases Int.lt_or_le ((n : Int) + 1) l.length with hc | hc
  · have hnow := nowT_lt hp (show n < l.length by omega)
    have hcl := noT_cel hp (show n < l.length by omega)
    have hbk := nbT_ok (l := l) (now := nowT l p n) (o := noT l p n) (by omega)
    have hsc := noT_succ l p n
    generalize nowT l p n = now at hnow hcl hbk hsc
    have t0 : ((n : Int) + 1 - 1).toNat = n := by omega
    have e4 : ((noT l p n).length : Int) - 1 = (n : Int) := by omega
    have e5 : (((noT l p n).length : Int) < (l.length : Int)) = True := eq_true (by omega)
    repeat (first | (simp only [go_sem, Int.reduceLT, Int.reduceLE, Int.reduceEq, Int.reduceToNat, hL, hc, e4, e5, t0, (get_app hat.get), hat.live, hcl, hl2]) | ((with_reducible refine And.intro ?_ ?_); omega) | ((with_reducible refine And.intro ?_ ?_); first | (with_reducible rfl) | assumption | (simp only [go_sem]; done)))
    refine WK_for (fun k : Nat => ⟨[.s i off l.length c, .any, .any, .any, .any, .any, .any, .any, .s H.length 0 (noT l p n).length (.u 0), .v (.int .i64 now), .v (.int .i64 (nbT l now (noT l p n) k)), .v (.int .i64 k)] ++ junk 55, H ++ [⟨(noT l p n).flatMap i64C, 2, .own 1⟩]⟩) (fun k => k ≤ l.length) (fun k => l.length - k) 0 (Weak.slots ?_) ?_ fun k hk => ?_
    · simp [go_sem, nbT]
    · simp
    rcases Int.lt_or_le (k : Int) l.length with hc2 | hc2
    · have hk2 : k < l.length := by omega
      have hnr := nbT_range l now (noT l p n) k
      have hs : nbT l now (noT l p n) (k + 1) = if hasI (noT l p n) k = false ∧ (nbT l now (noT l p n) k < 0 ∨ jmp l now k < jmp l now (nbT l now (noT l p n) k).toNat) then (k : Int) else nbT l now (noT l p n) k := rfl
      cases e6 : hasI (noT l p n) k
      · by_cases e7 : nbT l now (noT l p n) k < 0
        · rw [if_pos ⟨e6, .inl e7⟩] at hs
          repeat (first | (simp only [go_sem, Int.reduceLT, Int.reduceLE, Int.reduceEq, Int.reduceToNat, hL, hc2, e6, e7]) | ((with_reducible refine And.intro ?_ ?_); omega) | ((with_reducible refine isSK ?_); first | (refine call_ret (l00Has (l := noT l p n) (Rd.own0 rfl rfl rfl) (by omega)) (by simp only [go_sem, Int.reduceLT, Int.reduceLE, Int.reduceEq, Int.reduceToNat, hL, hc2, e6, e7]) ?_)) | ((with_reducible refine isMC ?_); first | (refine mcall_ret (l00Has (l := noT l p n) (Rd.own0 rfl rfl rfl) (by omega)) (by simp only [go_sem, Int.reduceLT, Int.reduceLE, Int.reduceEq, Int.reduceToNat, hL, hc2, e6, e7]) (by simp only [go_sem, Int.reduceLT, Int.reduceLE, Int.reduceEq, Int.reduceToNat, hL, hc2, e6, e7]) ?_)) | ((with_reducible refine And.intro ?_ ?_); first | (with_reducible rfl) | assumption | (simp only [go_sem]; done)))
          refine EK_again (k + 1) ?_ (by omega) (by omega)
          rw [hs]
          exact Weak.slots (by simp [go_sem])
        · by_cases e8 : jmp l now k < jmp l now (nbT l now (noT l p n) k).toNat
          · rw [if_pos ⟨e6, .inr e8⟩] at hs
            repeat (first | (simp only [go_sem, Int.reduceLT, Int.reduceLE, Int.reduceEq, Int.reduceToNat, hL, hc2, e6, e7, e8, Int.toNat_natCast]) | ((with_reducible refine And.intro ?_ ?_); omega) | ((with_reducible refine isSK ?_); first | (refine call_ret (l00Has (l := noT l p n) (Rd.own0 rfl rfl rfl) (by omega)) (by simp only [go_sem, Int.reduceLT, Int.reduceLE, Int.reduceEq, Int.reduceToNat, hL, hc2, e6, e7, e8, Int.toNat_natCast]) ?_) | (refine call_ret (l04Jump h.app h12 (by omega) (by omega)) (by simp only [go_sem, Int.reduceLT, Int.reduceLE, Int.reduceEq, Int.reduceToNat, hL, hc2, e6, e7, e8, Int.toNat_natCast]) ?_)) | ((with_reducible refine isMC ?_); first | (refine mcall_ret (l00Has (l := noT l p n) (Rd.own0 rfl rfl rfl) (by omega)) (by simp only [go_sem, Int.reduceLT, Int.reduceLE, Int.reduceEq, Int.reduceToNat, hL, hc2, e6, e7, e8, Int.toNat_natCast]) (by simp only [go_sem, Int.reduceLT, Int.reduceLE, Int.reduceEq, Int.reduceToNat, hL, hc2, e6, e7, e8, Int.toNat_natCast]) ?_) | (refine mcall_ret (l04Jump h.app h12 (by omega) (by omega)) (by simp only [go_sem, Int.reduceLT, Int.reduceLE, Int.reduceEq, Int.reduceToNat, hL, hc2, e6, e7, e8, Int.toNat_natCast]) (by simp only [go_sem, Int.reduceLT, Int.reduceLE, Int.reduceEq, Int.reduceToNat, hL, hc2, e6, e7, e8, Int.toNat_natCast]) ?_)) | ((with_reducible refine And.intro ?_ ?_); first | (with_reducible rfl) | assumption | (simp only [go_sem]; done)))
            refine EK_again (k + 1) ?_ (by omega) (by omega)
            rw [hs]
            exact Weak.slots (by simp [go_sem])
          · rw [if_neg (by rintro ⟨_, h1 | h1⟩ <;> contradiction)] at hs
            repeat (first | (simp only [go_sem, Int.reduceLT, Int.reduceLE, Int.reduceEq, Int.reduceToNat, hL, hc2, e6, e7, e8, Int.toNat_natCast]) | ((with_reducible refine And.intro ?_ ?_); omega) | ((with_reducible refine isSK ?_); first | (refine call_ret (l00Has (l := noT l p n) (Rd.own0 rfl rfl rfl) (by omega)) (by simp only [go_sem, Int.reduceLT, Int.reduceLE, Int.reduceEq, Int.reduceToNat, hL, hc2, e6, e7, e8, Int.toNat_natCast]) ?_) | (refine call_ret (l04Jump h.app h12 (by omega) (by omega)) (by simp only [go_sem, Int.reduceLT, Int.reduceLE, Int.reduceEq, Int.reduceToNat, hL, hc2, e6, e7, e8, Int.toNat_natCast]) ?_)) | ((with_reducible refine isMC ?_); first | (refine mcall_ret (l00Has (l := noT l p n) (Rd.own0 rfl rfl rfl) (by omega)) (by simp only [go_sem, Int.reduceLT, Int.reduceLE, Int.reduceEq, Int.reduceToNat, hL, hc2, e6, e7, e8, Int.toNat_natCast]) (by simp only [go_sem, Int.reduceLT, Int.reduceLE, Int.reduceEq, Int.reduceToNat, hL, hc2, e6, e7, e8, Int.toNat_natCast]) ?_) | (refine mcall_ret (l04Jump h.app h12 (by omega) (by omega)) (by simp only [go_sem, Int.reduceLT, Int.reduceLE, Int.reduceEq, Int.reduceToNat, hL, hc2, e6, e7, e8, Int.toNat_natCast]) (by simp only [go_sem, Int.reduceLT, Int.reduceLE, Int.reduceEq, Int.reduceToNat, hL, hc2, e6, e7, e8, Int.toNat_natCast]) ?_)) | ((with_reducible refine And.intro ?_ ?_); first | (with_reducible rfl) | assumption | (simp only [go_sem]; done)))
            refine EK_again (k + 1) ?_ (by omega) (by omega)
            rw [hs]
            exact Weak.slots (by simp [go_sem])
      · rw [if_neg (by rintro ⟨h1, _⟩; rw [e6] at h1; cases h1)] at hs
        repeat (first | (simp only [go_sem, Int.reduceLT, Int.reduceLE, Int.reduceEq, Int.reduceToNat, hL, hc2, e6]) | ((with_reducible refine And.intro ?_ ?_); omega) | ((with_reducible refine isSK ?_); first | (refine call_ret (l00Has (l := noT l p n) (Rd.own0 rfl rfl rfl) (by omega)) (by simp only [go_sem, Int.reduceLT, Int.reduceLE, Int.reduceEq, Int.reduceToNat, hL, hc2, e6]) ?_)) | ((with_reducible refine isMC ?_); first | (refine mcall_ret (l00Has (l := noT l p n) (Rd.own0 rfl rfl rfl) (by omega)) (by simp only [go_sem, Int.reduceLT, Int.reduceLE, Int.reduceEq, Int.reduceToNat, hL, hc2, e6]) (by simp only [go_sem, Int.reduceLT, Int.reduceLE, Int.reduceEq, Int.reduceToNat, hL, hc2, e6]) ?_)) | ((with_reducible refine And.intro ?_ ?_); first | (with_reducible rfl) | assumption | (simp only [go_sem]; done)))
        refine EK_again (k + 1) ?_ (by omega) (by omega)
        rw [hs]
        exact Weak.slots (by simp [go_sem])
    · have : k = l.length := by omega
      subst this
      have hd1 : (H.length + 1 = H.length) = False := eq_false (by omega)
      repeat (first | (simp only [go_sem, Int.reduceLT, Int.reduceLE, Int.reduceEq, Int.reduceToNat, hL, Int.not_lt.2 hc2, hl2, hn1, hn2, hij, hd1, hx]) | ((with_reducible refine And.intro ?_ ?_); omega) | ((with_reducible refine And.intro ?_ ?_); first | (with_reducible rfl) | assumption | (simp only [go_sem]; done)))
      refine EK_again (n + 1) ?_ (by omega) (by omega)
      rw [hsc, flat_snoc]
      exact Weak.keepN rfl (by simp [go_sem]) (by simp [hx]) (by simp [go_sem, hil, flat_i64.lts, i64C] <;> omega) (hw.app (by simp [go_sem, hil, flat_i64.lts, i64C] <;> omega))
  · have hn3 : n = l.length - 1 := by omega
    have hno : noT l p n = noL l p := by rw [hn3]; rfl
    have e5 : (((noL l p).length : Int) < (l.length : Int)) = False := eq_false (by rw [← hno]; omega)
    rw [hno] at hlen hlen2 hl2 hn2 ⊢
    have hok : okI l (noL l p) := hno ▸ noT_ok hp n (by omega)
    have hio := inO_len l (noL l p)
    repeat (first | (simp only [go_sem, Int.reduceLT, Int.reduceLE, Int.reduceEq, Int.reduceToNat, hL, e5]) | ((with_reducible refine And.intro ?_ ?_); omega) | ((with_reducible refine isSK ?_); first | (refine call_ret (l04Pages (l := l) (o := noL l p) h.app (Rd.own0 rfl rfl rfl) hok (by omega)) (by simp only [go_sem, Int.reduceLT, Int.reduceLE, Int.reduceEq, Int.reduceToNat, hL, e5]) ?_) | (refine call_ret (l04All (l := inO l (noL l p)) (by first | exact h | exact h.app | exact he | exact he.app | exact h2e | exact h2e.app |  exact h2 | exact h2.app | exact Rd.fill0 rfl (by rfl) (by first | rfl | simp) | exact Rd.own0 rfl (by rfl) (by first | rfl | simp) | exact Rd.nil _ _ | exact Rd.nilE (by assumption) | exact Rd.fill 1 rfl (by rfl) (by first | rfl | simp) | exact Rd.own 1 rfl (by rfl) (by first | rfl | simp) | exact Rd.fill 2 rfl (by rfl) (by first | rfl | simp) | exact Rd.own 2 rfl (by rfl) (by first | rfl | simp) | exact Rd.fill 3 rfl (by rfl) (by first | rfl | simp) | exact Rd.own 3 rfl (by rfl) (by first | rfl | simp) | exact Rd.fill 4 rfl (by rfl) (by first | rfl | simp) | exact Rd.own 4 rfl (by rfl) (by first | rfl | simp) | exact Rd.fill 5 rfl (by rfl) (by first | rfl | simp) | exact Rd.own 5 rfl (by rfl) (by first | rfl | simp) | exact Rd.fill 6 rfl (by rfl) (by first | rfl | simp) | exact Rd.own 6 rfl (by rfl) (by first | rfl | simp) | exact Rd.fill 7 rfl (by rfl) (by first | rfl | simp) | exact Rd.own 7 rfl (by rfl) (by first | rfl | simp) | exact Rd.fill 8 rfl (by rfl) (by first | rfl | simp) | exact Rd.own 8 rfl (by rfl) (by first | rfl | simp) | exact Rd.fill 9 rfl (by rfl) (by first | rfl | simp) | exact Rd.own 9 rfl (by rfl) (by first | rfl | simp) | exact Rd.fill 10 rfl (by rfl) (by first | rfl | simp) | exact Rd.own 10 rfl (by rfl) (by first | rfl | simp) | exact Rd.fill 11 rfl (by rfl) (by first | rfl | simp) | exact Rd.own 11 rfl (by rfl) (by first | rfl | simp) | exact Rd.fill 12 rfl (by rfl) (by first | rfl | simp) | exact Rd.own 12 rfl (by rfl) (by first | rfl | simp) | exact Rd.fill 13 rfl (by rfl) (by first | rfl | simp) | exact Rd.own 13 rfl (by rfl) (by first | rfl | simp) | exact Rd.fill 14 rfl (by rfl) (by first | rfl | simp) | exact Rd.own 14 rfl (by rfl) (by first | rfl | simp) | exact Rd.fill 15 rfl (by rfl) (by first | rfl | simp) | exact Rd.own 15 rfl (by rfl) (by first | rfl | simp)) (inO_12 h12 _) (by omega)) (by simp only [go_sem, Int.reduceLT, Int.reduceLE, Int.reduceEq, Int.reduceToNat, hL, e5]) ?_)) | ((with_reducible refine isMC ?_); first | (refine mcall_ret (l04Pages (l := l) (o := noL l p) h.app (Rd.own0 rfl rfl rfl) hok (by omega)) (by simp only [go_sem, Int.reduceLT, Int.reduceLE, Int.reduceEq, Int.reduceToNat, hL, e5]) (by simp only [go_sem, Int.reduceLT, Int.reduceLE, Int.reduceEq, Int.reduceToNat, hL, e5]) ?_) | (refine mcall_ret (l04All (l := inO l (noL l p)) (by first | exact h | exact h.app | exact he | exact he.app | exact h2e | exact h2e.app |  exact h2 | exact h2.app | exact Rd.fill0 rfl (by rfl) (by first | rfl | simp) | exact Rd.own0 rfl (by rfl) (by first | rfl | simp) | exact Rd.nil _ _ | exact Rd.nilE (by assumption) | exact Rd.fill 1 rfl (by rfl) (by first | rfl | simp) | exact Rd.own 1 rfl (by rfl) (by first | rfl | simp) | exact Rd.fill 2 rfl (by rfl) (by first | rfl | simp) | exact Rd.own 2 rfl (by rfl) (by first | rfl | simp) | exact Rd.fill 3 rfl (by rfl) (by first | rfl | simp) | exact Rd.own 3 rfl (by rfl) (by first | rfl | simp) | exact Rd.fill 4 rfl (by rfl) (by first | rfl | simp) | exact Rd.own 4 rfl (by rfl) (by first | rfl | simp) | exact Rd.fill 5 rfl (by rfl) (by first | rfl | simp) | exact Rd.own 5 rfl (by rfl) (by first | rfl | simp) | exact Rd.fill 6 rfl (by rfl) (by first | rfl | simp) | exact Rd.own 6 rfl (by rfl) (by first | rfl | simp) | exact Rd.fill 7 rfl (by rfl) (by first | rfl | simp) | exact Rd.own 7 rfl (by rfl) (by first | rfl | simp) | exact Rd.fill 8 rfl (by rfl) (by first | rfl | simp) | exact Rd.own 8 rfl (by rfl) (by first | rfl | simp) | exact Rd.fill 9 rfl (by rfl) (by first | rfl | simp) | exact Rd.own 9 rfl (by rfl) (by first | rfl | simp) | exact Rd.fill 10 rfl (by rfl) (by first | rfl | simp) | exact Rd.own 10 rfl (by rfl) (by first | rfl | simp) | exact Rd.fill 11 rfl (by rfl) (by first | rfl | simp) | exact Rd.own 11 rfl (by rfl) (by first | rfl | simp) | exact Rd.fill 12 rfl (by rfl) (by first | rfl | simp) | exact Rd.own 12 rfl (by rfl) (by first | rfl | simp) | exact Rd.fill 13 rfl (by rfl) (by first | rfl | simp) | exact Rd.own 13 rfl (by rfl) (by first | rfl | simp) | exact Rd.fill 14 rfl (by rfl) (by first | rfl | simp) | exact Rd.own 14 rfl (by rfl) (by first | rfl | simp) | exact Rd.fill 15 rfl (by rfl) (by first | rfl | simp) | exact Rd.own 15 rfl (by rfl) (by first | rfl | simp)) (inO_12 h12 _) (by omega)) (by simp only [go_sem, Int.reduceLT, Int.reduceLE, Int.reduceEq, Int.reduceToNat, hL, e5]) (by simp only [go_sem, Int.reduceLT, Int.reduceLE, Int.reduceEq, Int.reduceToNat, hL, e5]) ?_)) | ((with_reducible refine And.intro ?_ ?_); first | (with_reducible rfl) | assumption | (simp only [go_sem]; done)))
    refine ret_one hq hw _ (.inl rfl) 0 rfl (of_eq_true (flat_i64.lts _ _)) (.t [.s H.length 0 (noL l p).length (.u 0), .v (.int .i64 (allJ (inO l (noL l p)))), .v (.int .i64 0)]) (by simp [go_sem]) ?_
    simp [go_sem, conc, concs, upσ, Cap.val]
end Go.Proofs.Ytjkkallcgplgmaa

