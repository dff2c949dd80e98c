/- Contracts of functions of the translated program, by the walk. -/
import Derived.Test.YtaekjojblkhfdaaGreatLD
import Derived.Test.YtaekjojblkhfdaaGreatC2
set_option linter.unusedVariables false
set_option linter.unusedSimpArgs false
set_option maxRecDepth 8000
set_option maxHeartbeats 16000000
namespace Go.Proofs.YtaekjojblkhfdaaGreat
open Go Go.Sx
/-- The dot of number k is turned over. -/
def flipF (f : Nat → Int) (k : Nat) : Nat → Int := upd f (k / 12) (((f (k / 12)).toNat ^^^ 2 ^ (k % 12) : Nat) : Int)
def flips (f : Nat → Int) (l : List Nat) : Nat → Int := l.foldl flipF f
theorem two_pow_lt {x : Nat} (h : x ≤ 15) : (2 : Nat) ^ x < 65536 := by
  have : (2 : Nat) ^ x ≤ 2 ^ 15 := Nat.pow_le_pow_right (by omega) h
  omega
theorem flipF_r16 {f : Nat → Int} (h : R16 f) (k : Nat) : R16 (flipF f k) := by
  intro j hj
  unfold flipF upd
  split
  · rename_i e
    subst e
    have a := h _ hj
    have := Nat.xor_lt_two_pow (n := 16) (x := (f (k / 12)).toNat) (y := 2 ^ (k % 12)) (by omega) (two_pow_lt (by omega))
    omega
  · exact h j hj
theorem flips_r16 : ∀ (l : List Nat) {f : Nat → Int}, R16 f → R16 (flips f l)
  | [], _, h => h
  | k :: l, _, h => flips_r16 l (flipF_r16 h k)
theorem flips_app (f : Nat → Int) (l m : List Nat) : flips f (l ++ m) = flips (flips f l) m := List.foldl_append ..
theorem xor_dot8 {a x : Int} (ha : 0 ≤ a) (ha2 : a < 65536) (hx : 0 ≤ x) (hx2 : x ≤ 15) : bits .xor .u16 a (IntKind.u16.wrap (1 * 2 ^ (min x.toNat 16))) = ((a.toNat ^^^ 2 ^ x.toNat : Nat) : Int) := by
  have hm : min x.toNat 16 = x.toNat := by omega
  rw [hm]
  have hp := two_pow_lt (x := x.toNat) (by omega)
  have e : (1 : Int) * 2 ^ x.toNat = ((2 ^ x.toNat : Nat) : Int) := by norm_cast; omega
  rw [e]
  generalize (2 : Nat) ^ x.toNat = p at hp
  rw [wrap_u16 (by omega) (by omega), u16_xor a _ ha ha2 (by omega) (by omega), Int.toNat_natCast]
theorem dot_flipF {f : Nat → Int} {k x y : Nat} (hx : x < 12) : dot (flipF f k) x y = (dot f x y ^^ decide (k = y * 12 + x)) := by
  unfold dot flipF upd
  split
  · rename_i e
    subst e
    rw [Int.toNat_natCast, Nat.testBit_xor, Nat.testBit_two_pow]
    congr 1
    rw [Bool.eq_iff_iff]; simp; omega
  · rename_i e
    have : decide (k = y * 12 + x) = false := by simp; omega
    rw [this, Bool.xor_false]
theorem dot_flips {x y : Nat} (hx : x < 12) : ∀ (l : List Nat) {f : Nat → Int}, (∀ k ∈ l, k ≠ y * 12 + x) → dot (flips f l) x y = dot f x y
  | [], _, _ => rfl
  | k :: l, f, h => by
    have := dot_flips hx l (f := flipF f k) fun j hj => h j (List.mem_cons_of_mem _ hj)
    unfold flips at this ⊢
    rw [List.foldl_cons, this, dot_flipF hx]
    have : decide (k = y * 12 + x) = false := by simp; exact h k (List.mem_cons_self ..)
    rw [this, Bool.xor_false]
theorem dot_xorF {f g : Nat → Int} (h : R16 f) (h2 : R16 g) {x y : Nat} (hy : y < 12) : dot (xorF f g) x y = (dot f x y ^^ dot g x y) := by
  have a := h y hy
  have b := h2 y hy
  unfold dot xorF
  rw [u16_xor _ _ a.1 a.2 b.1 b.2, Int.toNat_natCast, Nat.testBit_xor]
def morphF (a b : Nat → Int) (m : Nat) : Nat → Int := flips a ((dotsF (xorF a b)).take m)
def morphN (a b : Nat → Int) (s t : Nat) : Nat := (dotsF (xorF a b)).length * s / t
theorem morphN_le {a b : Nat → Int} {s t : Nat} (h : s ≤ t) (ht : 1 ≤ t) : morphN a b s t ≤ (dotsF (xorF a b)).length := by
  unfold morphN
  exact Nat.div_le_of_le_mul (by rw [Nat.mul_comm t]; exact Nat.mul_le_mul_left _ h)
theorem length1 {H : List Blk} {i off n : Nat} {c : Cap} : Cal Tryz.prog 79 [.s i off n c] H fun v H' => v = .v (.int .i64 n) ∧ H' = H := by
  refine cal_fn 4 mixed Tryz.func79 Tryz.ntmps79 Tryz.results79 rfl rfl rfl fun hw cx hx hq => ?_
  repeat (first | (simp only [go_sem, Int.reduceLT, Int.reduceLE, Int.reduceEq, Int.reduceToNat]) | ((with_reducible refine And.intro ?_ ?_); omega) | ((with_reducible refine And.intro ?_ ?_); first | (with_reducible rfl) | assumption | (simp only [go_sem]; done)))
  refine ret_same hq _ (.inl rfl) ?_
  simp [go_sem]
theorem morph {H : List Blk} {f g : Nat → Int} {s t : Nat} (hf : F12 f) (hg : F12 g) (hst : s ≤ t) (ht : 1 ≤ t) (ht2 : t ≤ 1000) : Cal Tryz.prog 56 [.a (rowL .u16 12 (f)), .a (rowL .u16 12 (g)), .v (.int .i64 s), .v (.int .i64 t)] H fun v H' => v = .a (rowL .u16 12 (morphF f g (morphN f g s t))) ∧ H' = H := by
  have hN := morphN_le (a := f) (b := g) hst ht
  have hD := dotsF_le (xorF f g)
  have hdiv : (((dotsF (xorF f g)).length : Int) * (s : Int)).tdiv (t : Int) = ((morphN f g s t : Nat) : Int) := by
    unfold morphN
    rw [Int.tdiv_eq_ediv_of_nonneg (by exact_mod_cast Nat.zero_le ((dotsF (xorF f g)).length * s))]
    norm_cast
  have hmul : (0 : Int) ≤ ((dotsF (xorF f g)).length : Int) * (s : Int) ∧ ((dotsF (xorF f g)).length : Int) * (s : Int) ≤ 144000 := by
    have h1 : (dotsF (xorF f g)).length * s ≤ 144000 := Nat.mul_le_mul hD (show s ≤ 1000 by omega)
    rw [← Int.natCast_mul]
    generalize (dotsF (xorF f g)).length * s = z at h1
    omega
  have hfl : ((dotsF (xorF f g)).flatMap dotL).length = (dotsF (xorF f g)).length * 2 := flat_len dotL 2 dotL_len _
  refine cal_fn 36 mixed Tryz.func56 Tryz.ntmps56 Tryz.results56 rfl rfl rfl fun hw cx hx hq => ?_
  repeat (first | (simp only [go_sem, Int.reduceLT, Int.reduceLE, Int.reduceEq, Int.reduceToNat, hdiv, rowL_rep, hfl]) | ((with_reducible refine And.intro ?_ ?_); omega) | ((with_reducible refine isSK ?_); first | (refine call_ret (differ) (by simp only [go_sem, Int.reduceLT, Int.reduceLE, Int.reduceEq, Int.reduceToNat, hdiv, rowL_rep, hfl]) ?_) | (refine call_ret (dots (xorF_12 hf hg).r16) (by simp only [go_sem, Int.reduceLT, Int.reduceLE, Int.reduceEq, Int.reduceToNat, hdiv, rowL_rep, hfl]) ?_) | (refine call_ret (length1) (by simp only [go_sem, Int.reduceLT, Int.reduceLE, Int.reduceEq, Int.reduceToNat, hdiv, rowL_rep, hfl]) ?_)) | ((with_reducible refine isMC ?_); first | (refine mcall_ret (differ) (by simp only [go_sem, Int.reduceLT, Int.reduceLE, Int.reduceEq, Int.reduceToNat, hdiv, rowL_rep, hfl]) (by simp only [go_sem, Int.reduceLT, Int.reduceLE, Int.reduceEq, Int.reduceToNat, hdiv, rowL_rep, hfl]) ?_) | (refine mcall_ret (dots (xorF_12 hf hg).r16) (by simp only [go_sem, Int.reduceLT, Int.reduceLE, Int.reduceEq, Int.reduceToNat, hdiv, rowL_rep, hfl]) (by simp only [go_sem, Int.reduceLT, Int.reduceLE, Int.reduceEq, Int.reduceToNat, hdiv, rowL_rep, hfl]) ?_) | (refine mcall_ret (length1) (by simp only [go_sem, Int.reduceLT, Int.reduceLE, Int.reduceEq, Int.reduceToNat, hdiv, rowL_rep, hfl]) (by simp only [go_sem, Int.reduceLT, Int.reduceLE, Int.reduceEq, Int.reduceToNat, hdiv, rowL_rep, hfl]) ?_)) | ((with_reducible refine isWKr (id := 5) ?_); refine WK_drawAt 5 [[],[0],[0,1],[0,1,2],[],[4],[4,5],[0,1,2,3,4,5,6],[0,1,2,3,4,5,6,7],[0,1,2,3,4,5,6,7,8]] (by kernel_rfl) ?_) | ((with_reducible refine And.intro ?_ ?_); first | (with_reducible rfl) | assumption | (simp only [go_sem]; done)))
  refine WK_for (fun n : Nat => ⟨[.any, .any, .v (.int .i64 s), .v (.int .i64 t), .p H.length 0, .p (H.length + 1) 0, .any, .any, .p (H.length + 2) 0, .any, .any, .any, .any, .any, .any, .any, .any, .any, .any, .any, .any, .any, .any, .s (H.length + 3) 0 (morphN f g s t) (.i 0), .v (.int .i64 (morphN f g s t)), .v (.int .i64 n)] ++ junk 14, H ++ [⟨rowL .u16 12 (flips f ((dotsF (xorF f g)).take n)), 63, .fix⟩, ⟨rowL .u16 12 (g), 63, .fix⟩, ⟨rowL .u16 12 (fun _ => 0), 63, .fix⟩, ⟨(dotsF (xorF f g)).flatMap dotL, 101, .own 2⟩]⟩) (fun n => n ≤ morphN f g s t) (fun n => morphN f g s t - n) 0 (Weak.slots ?_) ?_ fun n hn => ?_
  · simp only [go_sem]; simp
  · simp
  rcases Int.lt_or_le (n : Int) (morphN f g s t) with hc | hc
  · have hj : n < (dotsF (xorF f g)).length := by omega
    have hd := elem_dots hj
    have hk : (dotsF (xorF f g))[n] < 144 := (mem_dotsF.1 (List.getElem_mem hj)).1
    have hr : R16 (flips f ((dotsF (xorF f g)).take n)) := flips_r16 _ hf.r16
    have e2 : flips f ((dotsF (xorF f g)).take (n + 1)) = flipF (flips f ((dotsF (xorF f g)).take n)) (dotsF (xorF f g))[n] := by
      rw [List.take_succ_eq_append_getElem hj, flips_app]; rfl
    have hds := flat_seg dotL 2 dotL_len (dotsF (xorF f g)) n hj
    generalize (dotsF (xorF f g))[n] = k at hd hk e2 hds
    have hds' : seg ((dotsF (xorF f g)).flatMap dotL) (n * 2) 2 = [.v (.int .i8 ((k % 12 : Nat) : Int)), .v (.int .i8 ((k / 12 : Nat) : Int))] := hds
    have hry := hr (k / 12) (by omega)
    have hxd := xor_dot8 hry.1 hry.2 (x := ((k % 12 : Nat) : Int)) (by omega) (by omega)
    rw [Int.toNat_natCast] at hxd
    repeat (first | (simp only [go_sem, Int.reduceLT, Int.reduceLE, Int.reduceEq, Int.reduceToNat, hc, hds', hfl, rowL_cel _ _ _ (show k / 12 < 12 by omega), hxd, rowL_wr _ _ _ (show k / 12 < 12 by omega)]) | ((with_reducible refine And.intro ?_ ?_); omega) | ((with_reducible refine isWKr (id := 5) ?_); refine WK_drawAt 5 [[],[0],[0,1],[0,1,2],[],[4],[4,5],[0,1,2,3,4,5,6],[0,1,2,3,4,5,6,7],[0,1,2,3,4,5,6,7,8]] (by kernel_rfl) ?_) | ((with_reducible refine And.intro ?_ ?_); first | (with_reducible rfl) | assumption | (simp only [go_sem]; done)))
    refine EK_again (n + 1) ?_ (by omega) (by omega)
    rw [e2]
    exact Weak.keepN rfl (by simp [go_sem] <;> omega) (by simp [hx]) (by simp [go_sem, dots_lts] <;> omega) (hw.app (by simp [go_sem, dots_lts] <;> omega))
  · have : n = morphN f g s t := by omega
    subst this
    repeat (first | (simp only [go_sem, Int.reduceLT, Int.reduceLE, Int.reduceEq, Int.reduceToNat, Int.not_lt.2 hc]) | ((with_reducible refine And.intro ?_ ?_); omega) | ((with_reducible refine isWKr (id := 5) ?_); refine WK_drawAt 5 [[],[0],[0,1],[0,1,2],[],[4],[4,5],[0,1,2,3,4,5,6],[0,1,2,3,4,5,6,7],[0,1,2,3,4,5,6,7,8]] (by kernel_rfl) ?_) | ((with_reducible refine And.intro ?_ ?_); first | (with_reducible rfl) | assumption | (simp only [go_sem]; done)))
    refine ret_cut hq hw _ (.inl rfl) ?_
    simp [go_sem, morphF]
theorem xor_dot {a x : Int} (ha : 0 ≤ a) (ha2 : a < 65536) (hx : 0 ≤ x) (hx2 : x ≤ 15) : bits .xor .u16 a (IntKind.u16.wrap (1 * 2 ^ (min (IntKind.u64.wrap x).toNat 16))) = ((a.toNat ^^^ 2 ^ x.toNat : Nat) : Int) := by
  rw [wrap_u64 hx (by omega)]; exact xor_dot8 ha ha2 hx hx2
/-- What is left to turn over when the first k places have been seen. -/
def leftM (X : Nat → Int) (m k : Nat) : Nat := m - (dotsTo X k).length
theorem dotsTo_le (f : Nat → Int) {k n : Nat} (h : k ≤ n) : ∃ l, dotsTo f n = dotsTo f k ++ l := by
  unfold dotsTo
  obtain ⟨d, rfl⟩ := Nat.exists_eq_add_of_le h
  rw [List.range_add, List.filter_append]
  exact ⟨_, rfl⟩
theorem dotsTo_mem {f : Nat → Int} {k n : Nat} (h : k ∈ dotsTo f n) : k < n := by
  unfold dotsTo at h; exact List.mem_range.1 (List.mem_filter.1 h).1
theorem take_skip {X : Nat → Int} {m k n : Nat} (hk : k ≤ n) (h : leftM X m k = 0) : (dotsTo X n).take m = (dotsTo X k).take m ∧ leftM X m n = 0 := by
  obtain ⟨l, hl⟩ := dotsTo_le X hk
  unfold leftM at h ⊢
  rw [hl, List.take_append_of_le_length (by omega), List.length_append]
  exact ⟨rfl, by omega⟩
theorem l03Morph {H : List Blk} {f g : Nat → Int} {s t : Nat} (hf : F12 f) (hg : F12 g) (hst : s ≤ t) (ht : 1 ≤ t) (ht2 : t ≤ 1000) : Cal Tryz.prog 58 [.a (rowL .u16 12 (f)), .a (rowL .u16 12 (g)), .v (.int .i64 s), .v (.int .i64 t)] H fun v H' => v = .a (rowL .u16 12 (morphF f g (morphN f g s t))) ∧ H' = H := by
  have hN := morphN_le (a := f) (b := g) hst ht
  have hD := dotsF_le (xorF f g)
  have hdiv : (jumpF f g * (s : Int)).tdiv (t : Int) = ((morphN f g s t : Nat) : Int) := by
    unfold morphN jumpF
    rw [Int.tdiv_eq_ediv_of_nonneg (by exact_mod_cast Nat.zero_le ((dotsF (xorF f g)).length * s))]
    norm_cast
  have hmul : (0 : Int) ≤ jumpF f g * (s : Int) ∧ jumpF f g * (s : Int) ≤ 144000 := by
    have h1 : (dotsF (xorF f g)).length * s ≤ 144000 := Nat.mul_le_mul hD (show s ≤ 1000 by omega)
    unfold jumpF
    rw [← Int.natCast_mul]
    generalize (dotsF (xorF f g)).length * s = z at h1
    omega
  have hjl := jumpF_le f g
  generalize hM : morphN f g s t = m at hN hdiv
  refine cal_fn 43 mixed Tryz.func58 Tryz.ntmps58 Tryz.results58 rfl rfl rfl fun hw cx hx hq => ?_
  repeat (first | (simp only [go_sem, Int.reduceLT, Int.reduceLE, Int.reduceEq, Int.reduceToNat, hdiv, rowL_rep]) | ((with_reducible refine And.intro ?_ ?_); omega) | ((with_reducible refine isSK ?_); first | (refine call_ret (l01Differ (At.mk0 rfl) (At.mk' 1 rfl rfl) hf hg) (by simp only [go_sem, Int.reduceLT, Int.reduceLE, Int.reduceEq, Int.reduceToNat, hdiv, rowL_rep]) ?_)) | ((with_reducible refine And.intro ?_ ?_); first | (with_reducible rfl) | assumption | (simp only [go_sem]; done)))
  let X := xorF f g
  refine WK_for (fun y : Nat => ⟨[.any, .any, .any, .any, .p H.length 0, .p (H.length + 1) 0, .any, .any, .p (H.length + 2) 0, .v (.int .i64 (leftM X m (y * 12) : Nat)), .v (.int .i64 y)] ++ junk 36, H ++ [⟨rowL .u16 12 (flips f ((dotsTo X (y * 12)).take m)), 63, .fix⟩, ⟨rowL .u16 12 (g), 63, .fix⟩, ⟨rowL .u16 12 (fun _ => 0), 63, .fix⟩]⟩) (fun y => y ≤ 12) (fun y => 12 - y) 0 ?_ ?_ fun y hy => ?_
  · have h0 : flips f ((dotsTo X (0 * 12)).take m) = f := by simp [dotsTo, flips]
    rw [h0]
    exact Weak.slots (by simp only [go_sem]; simp [leftM, dotsTo])
  · simp
  rcases Int.lt_or_le (y : Int) 12 with hc | hc
  · repeat (first | (simp only [go_sem, Int.reduceLT, Int.reduceLE, Int.reduceEq, Int.reduceToNat, hc]) | ((with_reducible refine And.intro ?_ ?_); omega) | ((with_reducible refine And.intro ?_ ?_); first | (with_reducible rfl) | assumption | (simp only [go_sem]; done)))
    refine WK_for (fun z : Nat => ⟨[.any, .any, .any, .any, .p H.length 0, .p (H.length + 1) 0, .any, .any, .p (H.length + 2) 0, .v (.int .i64 (leftM X m (y * 12 + z) : Nat)), .v (.int .i64 y), .v (.int .i64 z)] ++ junk 35, H ++ [⟨rowL .u16 12 (flips f ((dotsTo X (y * 12 + z)).take m)), 63, .fix⟩, ⟨rowL .u16 12 (g), 63, .fix⟩, ⟨rowL .u16 12 (fun _ => 0), 63, .fix⟩]⟩) (fun z => z ≤ 12) (fun z => 12 - z) 0 (Weak.slots ?_) ?_ fun z hz => ?_
    · simp only [go_sem]; simp
    · simp
    have e12 : y * 12 + 12 = (y + 1) * 12 := by omega
    by_cases hgo : z < 12 ∧ 0 < leftM X m (y * 12 + z)
    · have hc2 : (z : Int) < 12 := by omega
      have hc3 : (0 : Int) < ((leftM X m (y * 12 + z) : Nat) : Int) := by omega
      have hr : R16 (flips f ((dotsTo X (y * 12 + z)).take m)) := flips_r16 _ hf.r16
      have hk1 : (y * 12 + z) % 12 = z := by omega
      have hk2 : (y * 12 + z) / 12 = y := by omega
      have hsucc := dotsTo_succ X (y * 12 + z)
      rw [hk1, hk2] at hsucc
      have htk : (dotsTo X (y * 12 + z)).take m = dotsTo X (y * 12 + z) := List.take_of_length_le (by have := hgo.2; unfold leftM at this; omega)
      have hp : hasF (flips f ((dotsTo X (y * 12 + z)).take m)) z y = dot f z y := by
        have : placeB z y = true := by simp [placeB]; omega
        unfold hasF
        rw [this, Bool.true_and, Int.toNat_natCast, Int.toNat_natCast]
        exact dot_flips (by omega) _ fun k hk e => by
          have := dotsTo_mem (List.mem_of_mem_take hk); omega
      have hp2 : hasF g z y = dot g z y := by
        have : placeB z y = true := by simp [placeB]; omega
        unfold hasF
        rw [this, Bool.true_and, Int.toNat_natCast, Int.toNat_natCast]
      have hdx := dot_xorF hf.r16 hg.r16 (x := z) (y := y) (by omega)
      have hlen := dotsTo_len X (y * 12 + z)
      cases e : (dot f z y == dot g z y)
      · have hX : dot X z y = true := by
          rw [hdx]; revert e; cases dot f z y <;> cases dot g z y <;> decide
        rw [hX] at hsucc
        simp only [if_true] at hsucc
        have hlm := hgo.2
        unfold leftM at hlm
        have e2 : (dotsTo X (y * 12 + (z + 1))).take m = (dotsTo X (y * 12 + z)).take m ++ [y * 12 + z] := by
          rw [← Nat.add_assoc, hsucc, htk]
          exact List.take_of_length_le (by simp; omega)
        have e3 : flips f ((dotsTo X (y * 12 + (z + 1))).take m) = flipF (flips f ((dotsTo X (y * 12 + z)).take m)) (y * 12 + z) := by rw [e2, flips_app]; rfl
        have e4 : ((leftM X m (y * 12 + (z + 1)) : Nat) : Int) = ((leftM X m (y * 12 + z) : Nat) : Int) - 1 := by
          unfold leftM; rw [← Nat.add_assoc, hsucc, List.length_append, List.length_singleton]; omega
        have hry := hr y (by omega)
        have hxd := xor_dot hry.1 hry.2 (x := (z : Int)) (by omega) (by omega)
        rw [Int.toNat_natCast] at hxd
        have hbd : leftM X m (y * 12 + z) ≤ m := by unfold leftM; omega
        repeat (first | (simp only [go_sem, Int.reduceLT, Int.reduceLE, Int.reduceEq, Int.reduceToNat, hc2, hc3, hp, hp2, e, rowL_cel _ _ _ (show y < 12 by omega), hxd, rowL_wr _ _ _ (show y < 12 by omega)]) | ((with_reducible refine And.intro ?_ ?_); omega) | ((with_reducible refine isSK ?_); first | (refine call_ret (l01Has (At.mk0 rfl) hr) (by simp only [go_sem, Int.reduceLT, Int.reduceLE, Int.reduceEq, Int.reduceToNat, hc2, hc3, hp, hp2, e, rowL_cel _ _ _ (show y < 12 by omega), hxd, rowL_wr _ _ _ (show y < 12 by omega)]) ?_) | (refine call_ret (l01Has (At.mk' 1 rfl rfl) hg.r16) (by simp only [go_sem, Int.reduceLT, Int.reduceLE, Int.reduceEq, Int.reduceToNat, hc2, hc3, hp, hp2, e, rowL_cel _ _ _ (show y < 12 by omega), hxd, rowL_wr _ _ _ (show y < 12 by omega)]) ?_)) | ((with_reducible refine And.intro ?_ ?_); first | (with_reducible rfl) | assumption | (simp only [go_sem]; done)))
        refine EK_again (z + 1) ?_ (by omega) (by omega)
        rw [e3, e4]
        unfold flipF
        rw [hk1, hk2]
        exact Weak.slots (by simp [go_sem])
      · have hX : dot X z y = false := by
          rw [hdx]; revert e; cases dot f z y <;> cases dot g z y <;> decide
        rw [hX] at hsucc
        have e2 : dotsTo X (y * 12 + (z + 1)) = dotsTo X (y * 12 + z) := by rw [← Nat.add_assoc, hsucc]; simp
        have e4 : leftM X m (y * 12 + (z + 1)) = leftM X m (y * 12 + z) := by unfold leftM; rw [e2]
        repeat (first | (simp only [go_sem, Int.reduceLT, Int.reduceLE, Int.reduceEq, Int.reduceToNat, hc2, hc3, hp, hp2, e]) | ((with_reducible refine And.intro ?_ ?_); omega) | ((with_reducible refine isSK ?_); first | (refine call_ret (l01Has (At.mk0 rfl) hr) (by simp only [go_sem, Int.reduceLT, Int.reduceLE, Int.reduceEq, Int.reduceToNat, hc2, hc3, hp, hp2, e]) ?_) | (refine call_ret (l01Has (At.mk' 1 rfl rfl) hg.r16) (by simp only [go_sem, Int.reduceLT, Int.reduceLE, Int.reduceEq, Int.reduceToNat, hc2, hc3, hp, hp2, e]) ?_)) | ((with_reducible refine And.intro ?_ ?_); first | (with_reducible rfl) | assumption | (simp only [go_sem]; done)))
        refine EK_again (z + 1) ?_ (by omega) (by omega)
        rw [e2, e4]
        exact Weak.slots (by simp [go_sem])
    · have hend : flips f ((dotsTo X (y * 12 + z)).take m) = flips f ((dotsTo X ((y + 1) * 12)).take m) ∧ leftM X m ((y + 1) * 12) = leftM X m (y * 12 + z) := by
        by_cases hz2 : z = 12
        · subst hz2; rw [e12]; exact ⟨rfl, rfl⟩
        · have h0 : leftM X m (y * 12 + z) = 0 := by omega
          have := take_skip (X := X) (m := m) (show y * 12 + z ≤ (y + 1) * 12 by omega) h0
          rw [this.1, this.2, h0]; exact ⟨rfl, rfl⟩
      by_cases hz2 : z = 12
      · subst hz2
        have h12 : (((12 : Nat) : Int) < 12) = False := eq_false (by omega)
        repeat (first | (simp only [go_sem, Int.reduceLT, Int.reduceLE, Int.reduceEq, Int.reduceToNat, h12, not_false_eq_true]) | ((with_reducible refine And.intro ?_ ?_); omega) | ((with_reducible refine And.intro ?_ ?_); first | (with_reducible rfl) | assumption | (simp only [go_sem]; done)))
        refine EK_again (y + 1) ?_ (by omega) (by omega)
        rw [← hend.1, hend.2]
        exact Weak.slots (by simp [go_sem])
      · have hc2 : (z : Int) < 12 := by omega
        have h0 : leftM X m (y * 12 + z) = 0 := by omega
        have hc3 : ((0 : Int) < ((leftM X m (y * 12 + z) : Nat) : Int)) = False := eq_false (by omega)
        repeat (first | (simp only [go_sem, Int.reduceLT, Int.reduceLE, Int.reduceEq, Int.reduceToNat, hc2, hc3]) | ((with_reducible refine And.intro ?_ ?_); omega) | ((with_reducible refine And.intro ?_ ?_); first | (with_reducible rfl) | assumption | (simp only [go_sem]; done)))
        refine EK_again (y + 1) ?_ (by omega) (by omega)
        rw [← hend.1, hend.2]
        exact Weak.slots (by simp [go_sem])
  · have : y = 12 := by omega
    subst this
    repeat (first | (simp only [go_sem, Int.reduceLT, Int.reduceLE, Int.reduceEq, Int.reduceToNat, Int.not_lt.2 hc]) | ((with_reducible refine And.intro ?_ ?_); omega) | ((with_reducible refine And.intro ?_ ?_); first | (with_reducible rfl) | assumption | (simp only [go_sem]; done)))
    refine ret_cut hq hw _ (.inl rfl) ?_
    simp [go_sem, morphF, hM, dotsF, X]
end Go.Proofs.YtaekjojblkhfdaaGreat
