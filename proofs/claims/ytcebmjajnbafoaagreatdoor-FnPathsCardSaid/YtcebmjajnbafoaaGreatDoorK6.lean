/- Contracts of functions of the translated program, by the walk. -/
import Derived.Test.YtcebmjajnbafoaaGreatDoorK4
set_option linter.unusedVariables false
set_option linter.unusedSimpArgs false
set_option maxRecDepth 8000
set_option maxHeartbeats 16000000
namespace Go.Proofs.YtcebmjajnbafoaaGreatDoor
open Go Go.Sx
theorem easeOf {H : List Blk} {e s t : Int} (h0 : 0 ≤ s) (h : s ≤ t) (ht : 1 ≤ t) (hm : t ≤ 1000) :
    Cal Tryz.prog 83 [.v (.int .i64 e), .v (.int .i64 s), .v (.int .i64 t)] H fun u H' => u = .v (.int .i64 (shareR e s t)) ∧ H' = H := by
  have q1 := sq_le h0 h
  have q2 := sq_le (a := t) (b := 1000) (by omega) (by omega)
  have q3 := sq_le (a := t - s) (b := t) (by omega) (by omega)
  have q4 : 2 * s * s = 2 * (s * s) := Int.mul_assoc ..
  have q5 : 2 * (t - s) * (t - s) = 2 * ((t - s) * (t - s)) := Int.mul_assoc ..
  have hp : 0 < t * t := Int.mul_pos (by omega) (by omega)
  have hne : (t * t = 0) = False := eq_false (by omega)
  have hne2 : (t = 0) = False := eq_false (by omega)
  have r := shareR_range (e := e) h0 h ht
  refine cal_fn 58 mixed Tryz.func83 Tryz.ntmps83 Tryz.results83 rfl rfl rfl fun hw cx hx hq => ?_
  by_cases e0 : e = 0
  · have hr : shareR e s t = (s * 1000).tdiv t := by unfold shareR; rw [if_pos e0]
    rw [hr] at r
    have b0 : (e = 0) = True := eq_true e0
    repeat (first | (simp only [go_sem, Int.reduceLT, Int.reduceLE, Int.reduceEq, Int.reduceToNat, b0, hne, hne2]) | ((with_reducible refine And.intro ?_ ?_); omega) | ((with_reducible refine And.intro ?_ ?_); first | (with_reducible rfl) | assumption | (simp only [go_sem]; done)))
    refine ret_same hq _ (.inl rfl) ?_
    simp [go_sem, hr]
  have b0 : (e = 0) = False := eq_false e0
  by_cases e1 : e = 1
  · have hr : shareR e s t = (s * s * 1000).tdiv (t * t) := by unfold shareR; rw [if_neg e0, if_pos e1]
    rw [hr] at r
    have b1 : (e = 1) = True := eq_true e1
    repeat (first | (simp only [go_sem, Int.reduceLT, Int.reduceLE, Int.reduceEq, Int.reduceToNat, b0, b1, hne, hne2]) | ((with_reducible refine And.intro ?_ ?_); omega) | ((with_reducible refine And.intro ?_ ?_); first | (with_reducible rfl) | assumption | (simp only [go_sem]; done)))
    refine ret_same hq _ (.inl rfl) ?_
    simp [go_sem, hr]
  have b1 : (e = 1) = False := eq_false e1
  by_cases e2 : e = 2
  · have hr : shareR e s t = 1000 - ((t - s) * (t - s) * 1000).tdiv (t * t) := by unfold shareR; rw [if_neg e0, if_neg e1, if_pos e2]
    rw [hr] at r
    have b2 : (e = 2) = True := eq_true e2
    repeat (first | (simp only [go_sem, Int.reduceLT, Int.reduceLE, Int.reduceEq, Int.reduceToNat, b0, b1, b2, hne, hne2]) | ((with_reducible refine And.intro ?_ ?_); omega) | ((with_reducible refine And.intro ?_ ?_); first | (with_reducible rfl) | assumption | (simp only [go_sem]; done)))
    refine ret_same hq _ (.inl rfl) ?_
    simp [go_sem, hr]
  have b2 : (e = 2) = False := eq_false e2
  by_cases e3 : 2 * s < t
  · have hr : shareR e s t = (2 * s * s * 1000).tdiv (t * t) := by unfold shareR; rw [if_neg e0, if_neg e1, if_neg e2, if_pos e3]
    rw [hr] at r
    have b3 : (2 * s < t) = True := eq_true e3
    repeat (first | (simp only [go_sem, Int.reduceLT, Int.reduceLE, Int.reduceEq, Int.reduceToNat, b0, b1, b2, b3, hne, hne2]) | ((with_reducible refine And.intro ?_ ?_); omega) | ((with_reducible refine And.intro ?_ ?_); first | (with_reducible rfl) | assumption | (simp only [go_sem]; done)))
    refine ret_same hq _ (.inl rfl) ?_
    simp [go_sem, hr]
  · have hr : shareR e s t = 1000 - (2 * (t - s) * (t - s) * 1000).tdiv (t * t) := by unfold shareR; rw [if_neg e0, if_neg e1, if_neg e2, if_neg e3]
    rw [hr] at r
    have b3 : (2 * s < t) = False := eq_false e3
    repeat (first | (simp only [go_sem, Int.reduceLT, Int.reduceLE, Int.reduceEq, Int.reduceToNat, b0, b1, b2, b3, hne, hne2]) | ((with_reducible refine And.intro ?_ ?_); omega) | ((with_reducible refine And.intro ?_ ?_); first | (with_reducible rfl) | assumption | (simp only [go_sem]; done)))
    refine ret_same hq _ (.inl rfl) ?_
    simp [go_sem, hr]

theorem l03Share {H : List Blk} {e s t : Int} (h0 : 0 ≤ s) (h : s ≤ t) (ht : 1 ≤ t) (hm : t ≤ 1000) :
    Cal Tryz.prog 84 [.v (.int .i64 e), .v (.int .i64 s), .v (.int .i64 t)] H fun u H' => u = .v (.int .i64 (shareR e s t)) ∧ H' = H := by
  have q1 := sq_le h0 h
  have q2 := sq_le (a := t) (b := 1000) (by omega) (by omega)
  have q3 := sq_le (a := t - s) (b := t) (by omega) (by omega)
  have q4 : 2 * s * s = 2 * (s * s) := Int.mul_assoc ..
  have q5 : 2 * (t - s) * (t - s) = 2 * ((t - s) * (t - s)) := Int.mul_assoc ..
  have hp : 0 < t * t := Int.mul_pos (by omega) (by omega)
  have hne : (t * t = 0) = False := eq_false (by omega)
  have hne2 : (t = 0) = False := eq_false (by omega)
  have r := shareR_range (e := e) h0 h ht
  refine cal_fn 55 mixed Tryz.func84 Tryz.ntmps84 Tryz.results84 rfl rfl rfl fun hw cx hx hq => ?_
  by_cases e0 : e = 0
  · have hr : shareR e s t = (s * 1000).tdiv t := by unfold shareR; rw [if_pos e0]
    rw [hr] at r
    have b0 : (e = 0) = True := eq_true e0
    repeat (first | (simp only [go_sem, Int.reduceLT, Int.reduceLE, Int.reduceEq, Int.reduceToNat, b0, hne, hne2]) | ((with_reducible refine And.intro ?_ ?_); omega) | ((with_reducible refine And.intro ?_ ?_); first | (with_reducible rfl) | assumption | (simp only [go_sem]; done)))
    refine ret_same hq _ (.inl rfl) ?_
    simp [go_sem, hr]
  have b0 : (e = 0) = False := eq_false e0
  by_cases e1 : e = 1
  · have hr : shareR e s t = (s * s * 1000).tdiv (t * t) := by unfold shareR; rw [if_neg e0, if_pos e1]
    rw [hr] at r
    have b1 : (e = 1) = True := eq_true e1
    repeat (first | (simp only [go_sem, Int.reduceLT, Int.reduceLE, Int.reduceEq, Int.reduceToNat, b0, b1, hne, hne2]) | ((with_reducible refine And.intro ?_ ?_); omega) | ((with_reducible refine And.intro ?_ ?_); first | (with_reducible rfl) | assumption | (simp only [go_sem]; done)))
    refine ret_same hq _ (.inl rfl) ?_
    simp [go_sem, hr]
  have b1 : (e = 1) = False := eq_false e1
  by_cases e2 : e = 2
  · have hr : shareR e s t = 1000 - ((t - s) * (t - s) * 1000).tdiv (t * t) := by unfold shareR; rw [if_neg e0, if_neg e1, if_pos e2]
    rw [hr] at r
    have b2 : (e = 2) = True := eq_true e2
    repeat (first | (simp only [go_sem, Int.reduceLT, Int.reduceLE, Int.reduceEq, Int.reduceToNat, b0, b1, b2, hne, hne2]) | ((with_reducible refine And.intro ?_ ?_); omega) | ((with_reducible refine And.intro ?_ ?_); first | (with_reducible rfl) | assumption | (simp only [go_sem]; done)))
    refine ret_same hq _ (.inl rfl) ?_
    simp [go_sem, hr]
  have b2 : (e = 2) = False := eq_false e2
  by_cases e3 : 2 * s < t
  · have hr : shareR e s t = (2 * s * s * 1000).tdiv (t * t) := by unfold shareR; rw [if_neg e0, if_neg e1, if_neg e2, if_pos e3]
    rw [hr] at r
    have b3 : (2 * s < t) = True := eq_true e3
    repeat (first | (simp only [go_sem, Int.reduceLT, Int.reduceLE, Int.reduceEq, Int.reduceToNat, b0, b1, b2, b3, hne, hne2]) | ((with_reducible refine And.intro ?_ ?_); omega) | ((with_reducible refine And.intro ?_ ?_); first | (with_reducible rfl) | assumption | (simp only [go_sem]; done)))
    refine ret_same hq _ (.inl rfl) ?_
    simp [go_sem, hr]
  · have hr : shareR e s t = 1000 - (2 * (t - s) * (t - s) * 1000).tdiv (t * t) := by unfold shareR; rw [if_neg e0, if_neg e1, if_neg e2, if_neg e3]
    rw [hr] at r
    have b3 : (2 * s < t) = False := eq_false e3
    repeat (first | (simp only [go_sem, Int.reduceLT, Int.reduceLE, Int.reduceEq, Int.reduceToNat, b0, b1, b2, b3, hne, hne2]) | ((with_reducible refine And.intro ?_ ?_); omega) | ((with_reducible refine And.intro ?_ ?_); first | (with_reducible rfl) | assumption | (simp only [go_sem]; done)))
    refine ret_same hq _ (.inl rfl) ?_
    simp [go_sem, hr]

theorem l00Max {H : List Blk} {a b : Int} : Cal Tryz.prog 93 [.v (.int .i64 a), .v (.int .i64 b)] H fun u H' => u = .v (.int .i64 (max a b)) ∧ H' = H := by
  refine cal_fn 8 mixed Tryz.func93 Tryz.ntmps93 Tryz.results93 rfl rfl rfl fun hw cx hx hq => ?_
  by_cases e : b < a
  · have b0 : (b < a) = True := eq_true e
    repeat (first | (simp only [go_sem, Int.reduceLT, Int.reduceLE, Int.reduceEq, Int.reduceToNat, b0]) | ((with_reducible refine And.intro ?_ ?_); omega) | ((with_reducible refine And.intro ?_ ?_); first | (with_reducible rfl) | assumption | (simp only [go_sem]; done)))
    refine ret_same hq _ (.inl rfl) ?_
    simp [go_sem]; omega
  · have b0 : (b < a) = False := eq_false e
    repeat (first | (simp only [go_sem, Int.reduceLT, Int.reduceLE, Int.reduceEq, Int.reduceToNat, b0]) | ((with_reducible refine And.intro ?_ ?_); omega) | ((with_reducible refine And.intro ?_ ?_); first | (with_reducible rfl) | assumption | (simp only [go_sem]; done)))
    refine ret_same hq _ (.inl rfl) ?_
    simp [go_sem]; omega
theorem l03Size {H : List Blk} {n : Int} (hn : -9223372036854775807 ≤ n ∧ n ≤ 9223372036854775807) : Cal Tryz.prog 82 [.v (.int .i64 n)] H fun u H' => u = .v (.int .i64 (max n (-n))) ∧ H' = H := by
  refine cal_fn 6 mixed Tryz.func82 Tryz.ntmps82 Tryz.results82 rfl rfl rfl fun hw cx hx hq => ?_
  repeat (first | (simp only [go_sem, Int.reduceLT, Int.reduceLE, Int.reduceEq, Int.reduceToNat]) | ((with_reducible refine And.intro ?_ ?_); omega) | ((with_reducible refine isSK ?_); first | (refine call_ret (l00Max) (by simp only [go_sem, Int.reduceLT, Int.reduceLE, Int.reduceEq, Int.reduceToNat]) ?_)) | ((with_reducible refine And.intro ?_ ?_); first | (with_reducible rfl) | assumption | (simp only [go_sem]; done)))
  refine ret_same hq _ (.inl rfl) ?_
  simp [go_sem]

theorem between {H : List Blk} {a b s : Int} (h0 : 0 ≤ s) (h : s ≤ 1000) (ha : -1000 ≤ a ∧ a ≤ 1000) (hb : -1000 ≤ b ∧ b ≤ 1000) :
    Cal Tryz.prog 66 [.v (.int .i64 a), .v (.int .i64 b), .v (.int .i64 s)] H fun u H' => u = .v (.int .i64 (betweenR a b s)) ∧ H' = H := by
  have r := betweenR_range (a := a) (b := b) h0 h ha hb
  refine cal_fn 25 mixed Tryz.func66 Tryz.ntmps66 Tryz.results66 rfl rfl rfl fun hw cx hx hq => ?_
  by_cases e : b < a
  · have b0 : (b < a) = True := eq_true e
    have m := mul_share (d := a - b) (by omega) h0 h
    have hz : max (b - a) (-(b - a)) = a - b := by omega
    have hr : betweenR a b s = a - ((a - b) * s + 500).tdiv 1000 := by unfold betweenR; rw [if_pos e]
    rw [hr] at r
    repeat (first | (simp only [go_sem, Int.reduceLT, Int.reduceLE, Int.reduceEq, Int.reduceToNat, b0, hz]) | ((with_reducible refine And.intro ?_ ?_); omega) | ((with_reducible refine And.intro ?_ ?_); first | (with_reducible rfl) | assumption | (simp only [go_sem]; done)))
    refine ret_same hq _ (.inl rfl) ?_
    simp [go_sem, hr]
  · have b0 : (b < a) = False := eq_false e
    have m := mul_share (d := b - a) (by omega) h0 h
    have hz : max (b - a) (-(b - a)) = b - a := by omega
    have hr : betweenR a b s = a + ((b - a) * s + 500).tdiv 1000 := by unfold betweenR; rw [if_neg e]
    rw [hr] at r
    repeat (first | (simp only [go_sem, Int.reduceLT, Int.reduceLE, Int.reduceEq, Int.reduceToNat, b0, hz]) | ((with_reducible refine And.intro ?_ ?_); omega) | ((with_reducible refine And.intro ?_ ?_); first | (with_reducible rfl) | assumption | (simp only [go_sem]; done)))
    refine ret_same hq _ (.inl rfl) ?_
    simp [go_sem, hr]

theorem l03Between {H : List Blk} {a b s : Int} (h0 : 0 ≤ s) (h : s ≤ 1000) (ha : -1000 ≤ a ∧ a ≤ 1000) (hb : -1000 ≤ b ∧ b ≤ 1000) :
    Cal Tryz.prog 68 [.v (.int .i64 a), .v (.int .i64 b), .v (.int .i64 s)] H fun u H' => u = .v (.int .i64 (betweenR a b s)) ∧ H' = H := by
  have r := betweenR_range (a := a) (b := b) h0 h ha hb
  refine cal_fn 22 mixed Tryz.func68 Tryz.ntmps68 Tryz.results68 rfl rfl rfl fun hw cx hx hq => ?_
  by_cases e : b < a
  · have b0 : (b < a) = True := eq_true e
    have m := mul_share (d := a - b) (by omega) h0 h
    have hz : max (b - a) (-(b - a)) = a - b := by omega
    have hr : betweenR a b s = a - ((a - b) * s + 500).tdiv 1000 := by unfold betweenR; rw [if_pos e]
    rw [hr] at r
    repeat (first | (simp only [go_sem, Int.reduceLT, Int.reduceLE, Int.reduceEq, Int.reduceToNat, b0, hz]) | ((with_reducible refine And.intro ?_ ?_); omega) | ((with_reducible refine isSK ?_); first | (refine call_ret (l03Size (by omega)) (by simp only [go_sem, Int.reduceLT, Int.reduceLE, Int.reduceEq, Int.reduceToNat, b0, hz]) ?_)) | ((with_reducible refine And.intro ?_ ?_); first | (with_reducible rfl) | assumption | (simp only [go_sem]; done)))
    refine ret_same hq _ (.inl rfl) ?_
    simp [go_sem, hr]
  · have b0 : (b < a) = False := eq_false e
    have m := mul_share (d := b - a) (by omega) h0 h
    have hz : max (b - a) (-(b - a)) = b - a := by omega
    have hr : betweenR a b s = a + ((b - a) * s + 500).tdiv 1000 := by unfold betweenR; rw [if_neg e]
    rw [hr] at r
    repeat (first | (simp only [go_sem, Int.reduceLT, Int.reduceLE, Int.reduceEq, Int.reduceToNat, b0, hz]) | ((with_reducible refine And.intro ?_ ?_); omega) | ((with_reducible refine isSK ?_); first | (refine call_ret (l03Size (by omega)) (by simp only [go_sem, Int.reduceLT, Int.reduceLE, Int.reduceEq, Int.reduceToNat, b0, hz]) ?_)) | ((with_reducible refine And.intro ?_ ?_); first | (with_reducible rfl) | assumption | (simp only [go_sem]; done)))
    refine ret_same hq _ (.inl rfl) ?_
    simp [go_sem, hr]

end Go.Proofs.YtcebmjajnbafoaaGreatDoor
namespace Go.Proofs.YtcebmjajnbafoaaGreatDoor
open Go Go.Sx
theorem wrap_i8 {x : Int} (h : -128 ≤ x) (h2 : x ≤ 127) : IntKind.i8.wrap x = x := by
  unfold IntKind.wrap; simp only [IntKind.signed, IntKind.bits]; simp; omega
theorem wrap_i16 {x : Int} (h : -32768 ≤ x) (h2 : x ≤ 32767) : IntKind.i16.wrap x = x := by
  unfold IntKind.wrap; simp only [IntKind.signed, IntKind.bits]; simp; omega
theorem placeR_lo {l : List (Nat → Int)} {e tick : Int} {c : Nat} (h : kn l tick = 0) : placeR l e tick c = kAt l 0 c := by unfold placeR; rw [h, if_pos (.inl rfl)]
theorem placeR_hi {l : List (Nat → Int)} {e tick : Int} {c : Nat} (h : kn l tick = l.length) : placeR l e tick c = kAt l (l.length - 1) c := by unfold placeR; rw [if_pos (.inr h), h]
theorem placeR_mid {l : List (Nat → Int)} {e tick : Int} {c n : Nat} (h : kn l tick = n + 1) (hn : n + 1 < l.length) : placeR l e tick c = betweenR (kAt l n c) (kAt l (n + 1) c) (shareR e (tick - kAt l n 0) (kAt l (n + 1) 0 - kAt l n 0)) := by
  unfold placeR; rw [h, if_neg (by omega)]; rfl

theorem trackAt {H : List Blk} {v : V} {l : List (Nat → Int)} {e tick : Int} (h : Rd H v encK l) (hK : ∀ a ∈ l, KyW a) (hv : tkOk l = true) (ht : 0 ≤ tick ∧ tick ≤ 200) :
    Cal Tryz.prog 55 [v, .v (.int .i64 e), .v (.int .i64 tick)] H fun u H' => u = .t [.v (.int .i64 (placeR l e tick 1)), .v (.int .i64 (placeR l e tick 2))] ∧ H' = H := by
  have hlen := tkOk_len hv
  have hsol := h.solid
  have hL := h.lenV (P := Tryz.prog) slTy25
  obtain ⟨i, off, c, b, rfl, hat, hfit⟩ := h.full (by omega)
  have hlt := hat.lt
  have g2 : ∀ L : List Blk, (H ++ L)[i]? = some b := fun L => get_app hat.get
  refine cal_fn 84 mixed Tryz.func55 Tryz.ntmps55 Tryz.results55 rfl rfl rfl fun hw cx hx hq => ?_
  repeat (first | (simp only [go_sem, Int.reduceLT, Int.reduceLE, Int.reduceEq, Int.reduceToNat, hL, hat.get, g2, hat.live, hlt, celK0, celK1, celK2, encK_len]) | ((with_reducible refine And.intro ?_ ?_); omega) | ((with_reducible refine isWKr (id := 6) ?_); refine WK_drawAt 6 [[],[0],[0,1],[],[3],[3,4],[0,1,2],[0,1,2,3,4,5,6]] (by kernel_rfl) ?_) | ((with_reducible refine isWKr (id := 7) ?_); refine WK_drawAt 7 [[],[],[1],[0,1,2],[0,1,2,3],[],[],[5,6],[5,6,7],[],[],[0,1,2,3,4,9,10],[0,1,2,3,4,5,6,7,8,9,10,11]] (by kernel_rfl) ?_) | ((with_reducible refine isWKr (id := 9) ?_); refine WK_drawUp 9 [[],[0],[0,1],[],[3],[3,4],[],[0,1,2,3,4,5,6],[],[8],[8,9],[],[11],[11,12],[],[0,1,2,3,4,5,6,7,8,9,10,11,12,13,14],[0,1,2,3,4,5,6,7,8,9,10,11,12,13,14,15],[0,1,2,3,4,5,6,7,8,9,10,11,12,13,14,15,16]] 15 (by kernel_rfl) ?_; dsimp only [List.take, List.drop]) | ((with_reducible refine And.intro ?_ ?_); first | (with_reducible rfl) | assumption | (simp only [go_sem]; done)))
  refine WK_for (fun n : Nat => ⟨[.s i off l.length c, .v (.int .i64 e), .v (.int .i64 tick), .any, .any, .any, .any, .any, .v (.int .i64 n)] ++ junk 78, H⟩) (fun n => n ≤ l.length ∧ ∀ j (hj : j < l.length), j < n → l[j] 0 ≤ tick) (fun n => l.length - n) 0 (Weak.slots ?_) ?_ fun n hn => ?_
  · simp [go_sem]
  · simp
  rcases Int.lt_or_le (n : Int) l.length with hc | hc
  · have hj : n < l.length := by omega
    have pe : At H i (off + n * 3) (rowK kK 3 (l[n]'hj)) b := hat.el encK_len hj
    have pf := hat.fits encK 3 encK_len hj (by omega)
    have pa := hat.elem encK 3 encK_len hj
    have p0 : cel b.cells (off + n * 3) = .v (.int .i16 ((l[n]'hj) 0)) := pe.celK (j := 0) (by omega)
    have p1 : cel b.cells (off + n * 3 + 1) = .v (.int .i8 ((l[n]'hj) 1)) := pe.celK (j := 1) (by omega)
    have p2 : cel b.cells (off + n * 3 + 2) = .v (.int .i8 ((l[n]'hj) 2)) := pe.celK (j := 2) (by omega)
    simp only [Nat.add_assoc] at p1 p2
    have pk := okK_iff.1 (tkOk_at hv hj).1
    by_cases hle : l[n] 0 ≤ tick
    · have b1 : (l[n] 0 ≤ tick) = True := eq_true hle
      repeat (first | (simp only [go_sem, Int.reduceLT, Int.reduceLE, Int.reduceEq, Int.reduceToNat, hL, hat.get, g2, hat.live, hlt, celK0, celK1, celK2, encK_len, hc, pf, pa, p0, p1, p2, b1]) | ((with_reducible refine And.intro ?_ ?_); omega) | ((with_reducible refine isWKr (id := 6) ?_); refine WK_drawAt 6 [[],[0],[0,1],[],[3],[3,4],[0,1,2],[0,1,2,3,4,5,6]] (by kernel_rfl) ?_) | ((with_reducible refine isWKr (id := 7) ?_); refine WK_drawAt 7 [[],[],[1],[0,1,2],[0,1,2,3],[],[],[5,6],[5,6,7],[],[],[0,1,2,3,4,9,10],[0,1,2,3,4,5,6,7,8,9,10,11]] (by kernel_rfl) ?_) | ((with_reducible refine isWKr (id := 9) ?_); refine WK_drawUp 9 [[],[0],[0,1],[],[3],[3,4],[],[0,1,2,3,4,5,6],[],[8],[8,9],[],[11],[11,12],[],[0,1,2,3,4,5,6,7,8,9,10,11,12,13,14],[0,1,2,3,4,5,6,7,8,9,10,11,12,13,14,15],[0,1,2,3,4,5,6,7,8,9,10,11,12,13,14,15,16]] 15 (by kernel_rfl) ?_; dsimp only [List.take, List.drop]) | ((with_reducible refine And.intro ?_ ?_); first | (with_reducible rfl) | assumption | (simp only [go_sem]; done)))
      refine EK_again (n + 1) (Weak.slots (by simp [go_sem])) ⟨by omega, fun j hj2 hj3 => ?_⟩ (by omega)
      by_cases e3 : j = n
      · subst e3; exact hle
      · exact hn.2 j hj2 (by omega)
    have b1 : (l[n] 0 ≤ tick) = False := eq_false hle
    have hk : kn l tick = n := kn_at (by omega) hn.2 fun _ => by omega
    by_cases e0 : n = 0
    · have r1 : placeR l e tick 1 = l[n] 1 := by rw [placeR_lo (hk.trans e0), ← e0, kAt_at hj]
      have r2 : placeR l e tick 2 = l[n] 2 := by rw [placeR_lo (hk.trans e0), ← e0, kAt_at hj]
      have b3 : ((n : Int) = 0) = True := eq_true (by omega)
      have t0 : (if (n : Int) - 1 > 0 then (n : Int) - 1 else 0) = n := by rw [if_neg (by omega)]; omega
      repeat (first | (simp only [go_sem, Int.reduceLT, Int.reduceLE, Int.reduceEq, Int.reduceToNat, hL, hat.get, g2, hat.live, hlt, celK0, celK1, celK2, encK_len, hc, pf, pa, p0, p1, p2, b1, b3, t0]) | ((with_reducible refine And.intro ?_ ?_); omega) | ((with_reducible refine isWKr (id := 6) ?_); refine WK_drawAt 6 [[],[0],[0,1],[],[3],[3,4],[0,1,2],[0,1,2,3,4,5,6]] (by kernel_rfl) ?_) | ((with_reducible refine isWKr (id := 7) ?_); refine WK_drawAt 7 [[],[],[1],[0,1,2],[0,1,2,3],[],[],[5,6],[5,6,7],[],[],[0,1,2,3,4,9,10],[0,1,2,3,4,5,6,7,8,9,10,11]] (by kernel_rfl) ?_) | ((with_reducible refine isWKr (id := 9) ?_); refine WK_drawUp 9 [[],[0],[0,1],[],[3],[3,4],[],[0,1,2,3,4,5,6],[],[8],[8,9],[],[11],[11,12],[],[0,1,2,3,4,5,6,7,8,9,10,11,12,13,14],[0,1,2,3,4,5,6,7,8,9,10,11,12,13,14,15],[0,1,2,3,4,5,6,7,8,9,10,11,12,13,14,15,16]] 15 (by kernel_rfl) ?_; dsimp only [List.take, List.drop]) | ((with_reducible refine And.intro ?_ ?_); first | (with_reducible rfl) | assumption | (simp only [go_sem]; done)))
      first | refine ret_same hq _ (.inl rfl) ?_ | refine ret_cut hq hw _ (.inl rfl) ?_
      simp [go_sem, r1, r2]
    obtain ⟨m, rfl⟩ : ∃ m, n = m + 1 := ⟨n - 1, by omega⟩
    have hj1 : m < l.length := by omega
    have qe : At H i (off + m * 3) (rowK kK 3 (l[m]'hj1)) b := hat.el encK_len hj1
    have qf := hat.fits encK 3 encK_len hj1 (by omega)
    have qa := hat.elem encK 3 encK_len hj1
    have q0 : cel b.cells (off + m * 3) = .v (.int .i16 ((l[m]'hj1) 0)) := qe.celK (j := 0) (by omega)
    have q1 : cel b.cells (off + m * 3 + 1) = .v (.int .i8 ((l[m]'hj1) 1)) := qe.celK (j := 1) (by omega)
    have q2 : cel b.cells (off + m * 3 + 2) = .v (.int .i8 ((l[m]'hj1) 2)) := qe.celK (j := 2) (by omega)
    simp only [Nat.add_assoc] at q1 q2
    have qk := okK_iff.1 (tkOk_at hv hj1).1
    have hlm := hn.2 m hj1 (by omega)
    have hmn := tkOk_lt hv (show m < m + 1 by omega) hj
    have e1 : (((m + 1 : Nat) : Int) = 0) = False := eq_false (by omega)
    have e2 : (((m + 1 : Nat) : Int) = (l.length : Int)) = False := eq_false (by omega)
    have t1 : (((m + 1 : Nat) : Int) - 1).toNat = m := by omega
    have w16 : IntKind.i16.wrap (l[m + 1] 0 - l[m] 0) = l[m + 1] 0 - l[m] 0 := wrap_i16 (by omega) (by omega)
    have r1 : placeR l e tick 1 = betweenR (l[m] 1) (l[m + 1] 1) (shareR e (tick - l[m] 0) (l[m + 1] 0 - l[m] 0)) := by rw [placeR_mid hk hj, kAt_at hj1, kAt_at hj]
    have r2 : placeR l e tick 2 = betweenR (l[m] 2) (l[m + 1] 2) (shareR e (tick - l[m] 0) (l[m + 1] 0 - l[m] 0)) := by rw [placeR_mid hk hj, kAt_at hj1, kAt_at hj]
    have hsr := shareR_range (e := e) (s := tick - l[m] 0) (t := l[m + 1] 0 - l[m] 0) (by omega) (by omega) (by omega)
    repeat (first | (simp only [go_sem, Int.reduceLT, Int.reduceLE, Int.reduceEq, Int.reduceToNat, hL, hat.get, g2, hat.live, hlt, celK0, celK1, celK2, encK_len, hc, pf, pa, p0, p1, p2, qf, qa, q0, q1, q2, b1, e1, e2, t1, w16]) | ((with_reducible refine And.intro ?_ ?_); omega) | ((with_reducible refine isSK ?_); first | (refine call_ret (easeOf (by omega) (by omega) (by omega) (by omega)) (by simp only [go_sem, Int.reduceLT, Int.reduceLE, Int.reduceEq, Int.reduceToNat, hL, hat.get, g2, hat.live, hlt, celK0, celK1, celK2, encK_len, hc, pf, pa, p0, p1, p2, qf, qa, q0, q1, q2, b1, e1, e2, t1, w16]) ?_) | (refine call_ret (between hsr.1 hsr.2 (by omega) (by omega)) (by simp only [go_sem, Int.reduceLT, Int.reduceLE, Int.reduceEq, Int.reduceToNat, hL, hat.get, g2, hat.live, hlt, celK0, celK1, celK2, encK_len, hc, pf, pa, p0, p1, p2, qf, qa, q0, q1, q2, b1, e1, e2, t1, w16]) ?_)) | ((with_reducible refine isMC ?_); first | (refine mcall_ret (easeOf (by omega) (by omega) (by omega) (by omega)) (by simp only [go_sem, Int.reduceLT, Int.reduceLE, Int.reduceEq, Int.reduceToNat, hL, hat.get, g2, hat.live, hlt, celK0, celK1, celK2, encK_len, hc, pf, pa, p0, p1, p2, qf, qa, q0, q1, q2, b1, e1, e2, t1, w16]) (by simp only [go_sem, Int.reduceLT, Int.reduceLE, Int.reduceEq, Int.reduceToNat, hL, hat.get, g2, hat.live, hlt, celK0, celK1, celK2, encK_len, hc, pf, pa, p0, p1, p2, qf, qa, q0, q1, q2, b1, e1, e2, t1, w16]) ?_) | (refine mcall_ret (between hsr.1 hsr.2 (by omega) (by omega)) (by simp only [go_sem, Int.reduceLT, Int.reduceLE, Int.reduceEq, Int.reduceToNat, hL, hat.get, g2, hat.live, hlt, celK0, celK1, celK2, encK_len, hc, pf, pa, p0, p1, p2, qf, qa, q0, q1, q2, b1, e1, e2, t1, w16]) (by simp only [go_sem, Int.reduceLT, Int.reduceLE, Int.reduceEq, Int.reduceToNat, hL, hat.get, g2, hat.live, hlt, celK0, celK1, celK2, encK_len, hc, pf, pa, p0, p1, p2, qf, qa, q0, q1, q2, b1, e1, e2, t1, w16]) ?_)) | ((with_reducible refine isWKr (id := 6) ?_); refine WK_drawAt 6 [[],[0],[0,1],[],[3],[3,4],[0,1,2],[0,1,2,3,4,5,6]] (by kernel_rfl) ?_) | ((with_reducible refine isWKr (id := 7) ?_); refine WK_drawAt 7 [[],[],[1],[0,1,2],[0,1,2,3],[],[],[5,6],[5,6,7],[],[],[0,1,2,3,4,9,10],[0,1,2,3,4,5,6,7,8,9,10,11]] (by kernel_rfl) ?_) | ((with_reducible refine isWKr (id := 9) ?_); refine WK_drawUp 9 [[],[0],[0,1],[],[3],[3,4],[],[0,1,2,3,4,5,6],[],[8],[8,9],[],[11],[11,12],[],[0,1,2,3,4,5,6,7,8,9,10,11,12,13,14],[0,1,2,3,4,5,6,7,8,9,10,11,12,13,14,15],[0,1,2,3,4,5,6,7,8,9,10,11,12,13,14,15,16]] 15 (by kernel_rfl) ?_; dsimp only [List.take, List.drop]) | ((with_reducible refine And.intro ?_ ?_); first | (with_reducible rfl) | assumption | (simp only [go_sem]; done)))
    first | refine ret_same hq _ (.inl rfl) ?_ | refine ret_cut hq hw _ (.inl rfl) ?_
    simp [go_sem, r1, r2]
  · have : n = l.length := by omega
    subst this
    have hk : kn l tick = l.length := kn_at (Nat.le_refl _) hn.2 fun h => absurd h (by omega)
    obtain ⟨m, hm⟩ : ∃ m, l.length = m + 1 := ⟨l.length - 1, by omega⟩
    have hj1 : m < l.length := by omega
    have qe : At H i (off + m * 3) (rowK kK 3 (l[m]'hj1)) b := hat.el encK_len hj1
    have qf := hat.fits encK 3 encK_len hj1 (by omega)
    have qa := hat.elem encK 3 encK_len hj1
    have q0 : cel b.cells (off + m * 3) = .v (.int .i16 ((l[m]'hj1) 0)) := qe.celK (j := 0) (by omega)
    have q1 : cel b.cells (off + m * 3 + 1) = .v (.int .i8 ((l[m]'hj1) 1)) := qe.celK (j := 1) (by omega)
    have q2 : cel b.cells (off + m * 3 + 2) = .v (.int .i8 ((l[m]'hj1) 2)) := qe.celK (j := 2) (by omega)
    simp only [Nat.add_assoc] at q1 q2
    have qk := okK_iff.1 (tkOk_at hv hj1).1
    have e1 : ((l.length : Int) = 0) = False := eq_false (by omega)
    have t0 : (if (l.length : Int) - 1 > 0 then (l.length : Int) - 1 else 0).toNat = m := by split <;> omega
    have r1 : placeR l e tick 1 = l[m] 1 := by rw [placeR_hi hk, show l.length - 1 = m by omega, kAt_at hj1]
    have r2 : placeR l e tick 2 = l[m] 2 := by rw [placeR_hi hk, show l.length - 1 = m by omega, kAt_at hj1]
    repeat (first | (simp only [go_sem, Int.reduceLT, Int.reduceLE, Int.reduceEq, Int.reduceToNat, hL, hat.get, g2, hat.live, hlt, celK0, celK1, celK2, encK_len, Int.not_lt.2 hc, qf, qa, q0, q1, q2, e1, t0]) | ((with_reducible refine And.intro ?_ ?_); omega) | ((with_reducible refine isWKr (id := 6) ?_); refine WK_drawAt 6 [[],[0],[0,1],[],[3],[3,4],[0,1,2],[0,1,2,3,4,5,6]] (by kernel_rfl) ?_) | ((with_reducible refine isWKr (id := 7) ?_); refine WK_drawAt 7 [[],[],[1],[0,1,2],[0,1,2,3],[],[],[5,6],[5,6,7],[],[],[0,1,2,3,4,9,10],[0,1,2,3,4,5,6,7,8,9,10,11]] (by kernel_rfl) ?_) | ((with_reducible refine isWKr (id := 9) ?_); refine WK_drawUp 9 [[],[0],[0,1],[],[3],[3,4],[],[0,1,2,3,4,5,6],[],[8],[8,9],[],[11],[11,12],[],[0,1,2,3,4,5,6,7,8,9,10,11,12,13,14],[0,1,2,3,4,5,6,7,8,9,10,11,12,13,14,15],[0,1,2,3,4,5,6,7,8,9,10,11,12,13,14,15,16]] 15 (by kernel_rfl) ?_; dsimp only [List.take, List.drop]) | ((with_reducible refine And.intro ?_ ?_); first | (with_reducible rfl) | assumption | (simp only [go_sem]; done)))
    first | refine ret_same hq _ (.inl rfl) ?_ | refine ret_cut hq hw _ (.inl rfl) ?_
    simp [go_sem, r1, r2]

theorem l03Place {H : List Blk} {v : V} {l : List (Nat → Int)} {e tick : Int} (h : Rd H v encK l) (hK : ∀ a ∈ l, KyW a) (hv : tkOk l = true) (ht : 0 ≤ tick ∧ tick ≤ 200) :
    Cal Tryz.prog 57 [v, .v (.int .i64 e), .v (.int .i64 tick)] H fun u H' => u = .t [.v (.int .i64 (placeR l e tick 1)), .v (.int .i64 (placeR l e tick 2))] ∧ H' = H := by
  have hlen := tkOk_len hv
  have hsol := h.solid
  have hL := h.lenV (P := Tryz.prog) slTy25
  obtain ⟨i, off, c, b, rfl, hat, hfit⟩ := h.full (by omega)
  have hlt := hat.lt
  have g2 : ∀ L : List Blk, (H ++ L)[i]? = some b := fun L => get_app hat.get
  refine cal_fn 100 mixed Tryz.func57 Tryz.ntmps57 Tryz.results57 rfl rfl rfl fun hw cx hx hq => ?_
  repeat (first | (simp only [go_sem, Int.reduceLT, Int.reduceLE, Int.reduceEq, Int.reduceToNat, hL, hat.get, g2, hat.live, hlt, celK0, celK1, celK2, encK_len]) | ((with_reducible refine And.intro ?_ ?_); omega) | ((with_reducible refine isWKr (id := 8) ?_); refine WK_drawUp 8 [[],[],[],[],[2,3],[2,3,4],[2,3,4,5],[2,3,4,5,6],[1,2,3,4,5,6,7],[],[],[10],[9,10,11],[9,10,11,12],[9,10,11,12,13],[9,10,11,12,13,14],[],[],[16,17],[16,17,18],[16,17,18,19],[16,17,18,19,20],[9,10,11,12,13,14,15,16,17,18,19,20,21],[0,1,2,3,4,5,6,7,8,9,10,11,12,13,14,15,16,17,18,19,20,21,22],[0,1,2,3,4,5,6,7,8,9,10,11,12,13,14,15,16,17,18,19,20,21,22,23]] 23 (by kernel_rfl) ?_; dsimp only [List.take, List.drop]) | ((with_reducible refine isWKr (id := 9) ?_); refine WK_drawUp 9 [[],[],[],[2],[1,2,3],[1,2,3,4],[1,2,3,4,5],[1,2,3,4,5,6],[],[0,1,2,3,4,5,6,7,8],[],[],[],[12],[11,12,13],[11,12,13,14],[11,12,13,14,15],[11,12,13,14,15,16],[],[0,1,2,3,4,5,6,7,8,9,10,11,12,13,14,15,16,17,18],[0,1,2,3,4,5,6,7,8,9,10,11,12,13,14,15,16,17,18,19],[0,1,2,3,4,5,6,7,8,9,10,11,12,13,14,15,16,17,18,19,20]] 19 (by kernel_rfl) ?_; dsimp only [List.take, List.drop]) | ((with_reducible refine And.intro ?_ ?_); first | (with_reducible rfl) | assumption | (simp only [go_sem]; done)))
  refine WK_for (fun n : Nat => ⟨[.s i off l.length c, .v (.int .i64 e), .v (.int .i64 tick), .any, .any, .any, .any, .any, .v (.int .i64 n)] ++ junk 94, H⟩) (fun n => n + 1 ≤ l.length ∧ ∀ j (hj : j < l.length), 1 ≤ j → j ≤ n → l[j] 0 ≤ tick) (fun n => l.length - n) 0 (Weak.slots ?_) ?_ fun n hn => ?_
  · simp [go_sem]
  · exact ⟨hlen.1, fun j hj h1 h2 => absurd h1 (by omega)⟩
  have hj : n < l.length := by omega
  have pe : At H i (off + n * 3) (rowK kK 3 (l[n]'hj)) b := hat.el encK_len hj
  have pf := hat.fits encK 3 encK_len hj (by omega)
  have pa := hat.elem encK 3 encK_len hj
  have p0 : cel b.cells (off + n * 3) = .v (.int .i16 ((l[n]'hj) 0)) := pe.celK (j := 0) (by omega)
  have p1 : cel b.cells (off + n * 3 + 1) = .v (.int .i8 ((l[n]'hj) 1)) := pe.celK (j := 1) (by omega)
  have p2 : cel b.cells (off + n * 3 + 2) = .v (.int .i8 ((l[n]'hj) 2)) := pe.celK (j := 2) (by omega)
  simp only [Nat.add_assoc] at p1 p2
  have pk := okK_iff.1 (tkOk_at hv hj).1
  have hbelow : l[n] 0 ≤ tick → ∀ j (hj2 : j < l.length), j < n + 1 → l[j] 0 ≤ tick := by
    intro hle j hj2 hj3
    by_cases e3 : j = n
    · subst e3; exact hle
    · have := tkOk_lt hv (show j < n by omega) hj; omega
  rcases Int.lt_or_le ((n : Int) + 1) l.length with hc | hc
  · have hj1 : n + 1 < l.length := by omega
    have tn : ((n : Int) + 1).toNat = n + 1 := by omega
    have qe : At H i (off + (n + 1) * 3) (rowK kK 3 (l[n + 1]'hj1)) b := hat.el encK_len hj1
    have qf := hat.fits encK 3 encK_len hj1 (by omega)
    have qa := hat.elem encK 3 encK_len hj1
    have q0 : cel b.cells (off + (n + 1) * 3) = .v (.int .i16 ((l[n + 1]'hj1) 0)) := qe.celK (j := 0) (by omega)
    have q1 : cel b.cells (off + (n + 1) * 3 + 1) = .v (.int .i8 ((l[n + 1]'hj1) 1)) := qe.celK (j := 1) (by omega)
    have q2 : cel b.cells (off + (n + 1) * 3 + 2) = .v (.int .i8 ((l[n + 1]'hj1) 2)) := qe.celK (j := 2) (by omega)
    simp only [Nat.add_assoc] at q1 q2
    have qk := okK_iff.1 (tkOk_at hv hj1).1
    have hmn := tkOk_lt hv (show n < n + 1 by omega) hj1
    by_cases hle : l[n + 1] 0 ≤ tick
    · have b1 : (l[n + 1] 0 ≤ tick) = True := eq_true hle
      repeat (first | (simp only [go_sem, Int.reduceLT, Int.reduceLE, Int.reduceEq, Int.reduceToNat, hL, hat.get, g2, hat.live, hlt, celK0, celK1, celK2, encK_len, hc, qf, qa, q0, q1, q2, b1, tn]) | ((with_reducible refine And.intro ?_ ?_); omega) | ((with_reducible refine isWKr (id := 8) ?_); refine WK_drawUp 8 [[],[],[],[],[2,3],[2,3,4],[2,3,4,5],[2,3,4,5,6],[1,2,3,4,5,6,7],[],[],[10],[9,10,11],[9,10,11,12],[9,10,11,12,13],[9,10,11,12,13,14],[],[],[16,17],[16,17,18],[16,17,18,19],[16,17,18,19,20],[9,10,11,12,13,14,15,16,17,18,19,20,21],[0,1,2,3,4,5,6,7,8,9,10,11,12,13,14,15,16,17,18,19,20,21,22],[0,1,2,3,4,5,6,7,8,9,10,11,12,13,14,15,16,17,18,19,20,21,22,23]] 23 (by kernel_rfl) ?_; dsimp only [List.take, List.drop]) | ((with_reducible refine isWKr (id := 9) ?_); refine WK_drawUp 9 [[],[],[],[2],[1,2,3],[1,2,3,4],[1,2,3,4,5],[1,2,3,4,5,6],[],[0,1,2,3,4,5,6,7,8],[],[],[],[12],[11,12,13],[11,12,13,14],[11,12,13,14,15],[11,12,13,14,15,16],[],[0,1,2,3,4,5,6,7,8,9,10,11,12,13,14,15,16,17,18],[0,1,2,3,4,5,6,7,8,9,10,11,12,13,14,15,16,17,18,19],[0,1,2,3,4,5,6,7,8,9,10,11,12,13,14,15,16,17,18,19,20]] 19 (by kernel_rfl) ?_; dsimp only [List.take, List.drop]) | ((with_reducible refine And.intro ?_ ?_); first | (with_reducible rfl) | assumption | (simp only [go_sem]; done)))
      refine EK_again (n + 1) (Weak.slots (by simp [go_sem])) ⟨by omega, fun j hj2 hj3 hj4 => ?_⟩ (by omega)
      by_cases e3 : j = n + 1
      · subst e3; exact hle
      · exact hn.2 j hj2 hj3 (by omega)
    have b1 : (l[n + 1] 0 ≤ tick) = False := eq_false hle
    have e1 : ((n : Int) + 1 = (l.length : Int)) = False := eq_false (by omega)
    by_cases hlo : tick ≤ l[n] 0
    · have r : ∀ c, placeR l e tick c = l[n] c := by
        intro c
        by_cases e4 : tick = l[n] 0
        · have hk : kn l tick = n + 1 := kn_at (by omega) (hbelow (by omega)) fun _ => by omega
          rw [placeR_mid hk hj1, kAt_at hj, e4, Int.sub_self, shareR_zero (by rw [kAt_at hj1]; omega), betweenR_zero]
        · have hn0 : n = 0 := by
            rcases Nat.lt_or_ge n 1 with h1 | h1
            · omega
            · have := hn.2 n hj h1 (Nat.le_refl _); omega
          subst hn0
          have hk : kn l tick = 0 := kn_at (by omega) (fun j _ h => absurd h (by omega)) fun _ => by omega
          rw [placeR_lo hk, kAt_at hj]
      have b2 : (tick ≤ l[n] 0) = True := eq_true hlo
      repeat (first | (simp only [go_sem, Int.reduceLT, Int.reduceLE, Int.reduceEq, Int.reduceToNat, hL, hat.get, g2, hat.live, hlt, celK0, celK1, celK2, encK_len, hc, pf, pa, p0, p1, p2, qf, qa, q0, q1, q2, b1, b2, e1, tn]) | ((with_reducible refine And.intro ?_ ?_); omega) | ((with_reducible refine isWKr (id := 8) ?_); refine WK_drawUp 8 [[],[],[],[],[2,3],[2,3,4],[2,3,4,5],[2,3,4,5,6],[1,2,3,4,5,6,7],[],[],[10],[9,10,11],[9,10,11,12],[9,10,11,12,13],[9,10,11,12,13,14],[],[],[16,17],[16,17,18],[16,17,18,19],[16,17,18,19,20],[9,10,11,12,13,14,15,16,17,18,19,20,21],[0,1,2,3,4,5,6,7,8,9,10,11,12,13,14,15,16,17,18,19,20,21,22],[0,1,2,3,4,5,6,7,8,9,10,11,12,13,14,15,16,17,18,19,20,21,22,23]] 23 (by kernel_rfl) ?_; dsimp only [List.take, List.drop]) | ((with_reducible refine isWKr (id := 9) ?_); refine WK_drawUp 9 [[],[],[],[2],[1,2,3],[1,2,3,4],[1,2,3,4,5],[1,2,3,4,5,6],[],[0,1,2,3,4,5,6,7,8],[],[],[],[12],[11,12,13],[11,12,13,14],[11,12,13,14,15],[11,12,13,14,15,16],[],[0,1,2,3,4,5,6,7,8,9,10,11,12,13,14,15,16,17,18],[0,1,2,3,4,5,6,7,8,9,10,11,12,13,14,15,16,17,18,19],[0,1,2,3,4,5,6,7,8,9,10,11,12,13,14,15,16,17,18,19,20]] 19 (by kernel_rfl) ?_; dsimp only [List.take, List.drop]) | ((with_reducible refine And.intro ?_ ?_); first | (with_reducible rfl) | assumption | (simp only [go_sem]; done)))
      first | refine ret_same hq _ (.inl rfl) ?_ | refine ret_cut hq hw _ (.inl rfl) ?_
      simp [go_sem, r]
    · have hk : kn l tick = n + 1 := kn_at (by omega) (hbelow (by omega)) fun _ => by omega
      have b2 : (tick ≤ l[n] 0) = False := eq_false hlo
      have r1 : placeR l e tick 1 = betweenR (l[n] 1) (l[n + 1] 1) (shareR e (tick - l[n] 0) (l[n + 1] 0 - l[n] 0)) := by rw [placeR_mid hk hj1, kAt_at hj1, kAt_at hj]
      have r2 : placeR l e tick 2 = betweenR (l[n] 2) (l[n + 1] 2) (shareR e (tick - l[n] 0) (l[n + 1] 0 - l[n] 0)) := by rw [placeR_mid hk hj1, kAt_at hj1, kAt_at hj]
      have hsr := shareR_range (e := e) (s := tick - l[n] 0) (t := l[n + 1] 0 - l[n] 0) (by omega) (by omega) (by omega)
      repeat (first | (simp only [go_sem, Int.reduceLT, Int.reduceLE, Int.reduceEq, Int.reduceToNat, hL, hat.get, g2, hat.live, hlt, celK0, celK1, celK2, encK_len, hc, pf, pa, p0, p1, p2, qf, qa, q0, q1, q2, b1, b2, e1, tn]) | ((with_reducible refine And.intro ?_ ?_); omega) | ((with_reducible refine isSK ?_); first | (refine call_ret (l03Share (by omega) (by omega) (by omega) (by omega)) (by simp only [go_sem, Int.reduceLT, Int.reduceLE, Int.reduceEq, Int.reduceToNat, hL, hat.get, g2, hat.live, hlt, celK0, celK1, celK2, encK_len, hc, pf, pa, p0, p1, p2, qf, qa, q0, q1, q2, b1, b2, e1, tn]) ?_) | (refine call_ret (l03Between hsr.1 hsr.2 (by omega) (by omega)) (by simp only [go_sem, Int.reduceLT, Int.reduceLE, Int.reduceEq, Int.reduceToNat, hL, hat.get, g2, hat.live, hlt, celK0, celK1, celK2, encK_len, hc, pf, pa, p0, p1, p2, qf, qa, q0, q1, q2, b1, b2, e1, tn]) ?_)) | ((with_reducible refine isMC ?_); first | (refine mcall_ret (l03Share (by omega) (by omega) (by omega) (by omega)) (by simp only [go_sem, Int.reduceLT, Int.reduceLE, Int.reduceEq, Int.reduceToNat, hL, hat.get, g2, hat.live, hlt, celK0, celK1, celK2, encK_len, hc, pf, pa, p0, p1, p2, qf, qa, q0, q1, q2, b1, b2, e1, tn]) (by simp only [go_sem, Int.reduceLT, Int.reduceLE, Int.reduceEq, Int.reduceToNat, hL, hat.get, g2, hat.live, hlt, celK0, celK1, celK2, encK_len, hc, pf, pa, p0, p1, p2, qf, qa, q0, q1, q2, b1, b2, e1, tn]) ?_) | (refine mcall_ret (l03Between hsr.1 hsr.2 (by omega) (by omega)) (by simp only [go_sem, Int.reduceLT, Int.reduceLE, Int.reduceEq, Int.reduceToNat, hL, hat.get, g2, hat.live, hlt, celK0, celK1, celK2, encK_len, hc, pf, pa, p0, p1, p2, qf, qa, q0, q1, q2, b1, b2, e1, tn]) (by simp only [go_sem, Int.reduceLT, Int.reduceLE, Int.reduceEq, Int.reduceToNat, hL, hat.get, g2, hat.live, hlt, celK0, celK1, celK2, encK_len, hc, pf, pa, p0, p1, p2, qf, qa, q0, q1, q2, b1, b2, e1, tn]) ?_)) | ((with_reducible refine isWKr (id := 8) ?_); refine WK_drawUp 8 [[],[],[],[],[2,3],[2,3,4],[2,3,4,5],[2,3,4,5,6],[1,2,3,4,5,6,7],[],[],[10],[9,10,11],[9,10,11,12],[9,10,11,12,13],[9,10,11,12,13,14],[],[],[16,17],[16,17,18],[16,17,18,19],[16,17,18,19,20],[9,10,11,12,13,14,15,16,17,18,19,20,21],[0,1,2,3,4,5,6,7,8,9,10,11,12,13,14,15,16,17,18,19,20,21,22],[0,1,2,3,4,5,6,7,8,9,10,11,12,13,14,15,16,17,18,19,20,21,22,23]] 23 (by kernel_rfl) ?_; dsimp only [List.take, List.drop]) | ((with_reducible refine isWKr (id := 9) ?_); refine WK_drawUp 9 [[],[],[],[2],[1,2,3],[1,2,3,4],[1,2,3,4,5],[1,2,3,4,5,6],[],[0,1,2,3,4,5,6,7,8],[],[],[],[12],[11,12,13],[11,12,13,14],[11,12,13,14,15],[11,12,13,14,15,16],[],[0,1,2,3,4,5,6,7,8,9,10,11,12,13,14,15,16,17,18],[0,1,2,3,4,5,6,7,8,9,10,11,12,13,14,15,16,17,18,19],[0,1,2,3,4,5,6,7,8,9,10,11,12,13,14,15,16,17,18,19,20]] 19 (by kernel_rfl) ?_; dsimp only [List.take, List.drop]) | ((with_reducible refine And.intro ?_ ?_); first | (with_reducible rfl) | assumption | (simp only [go_sem]; done)))
      first | refine ret_same hq _ (.inl rfl) ?_ | refine ret_cut hq hw _ (.inl rfl) ?_
      simp [go_sem, r1, r2]
  · have e1 : ((n : Int) + 1 = (l.length : Int)) = True := eq_true (by omega)
    have r : ∀ c, placeR l e tick c = l[n] c := by
      intro c
      by_cases hle : l[n] 0 ≤ tick
      · have hk : kn l tick = l.length := by
          have := kn_at (l := l) (tick := tick) (n := n + 1) (by omega) (hbelow hle) fun h => absurd h (by omega)
          omega
        rw [placeR_hi hk, show l.length - 1 = n by omega, kAt_at hj]
      · have hn0 : n = 0 := by
          rcases Nat.lt_or_ge n 1 with h1 | h1
          · omega
          · have := hn.2 n hj h1 (Nat.le_refl _); omega
        subst hn0
        have hk : kn l tick = 0 := kn_at (by omega) (fun j _ h => absurd h (by omega)) fun _ => by omega
        rw [placeR_lo hk, kAt_at hj]
    repeat (first | (simp only [go_sem, Int.reduceLT, Int.reduceLE, Int.reduceEq, Int.reduceToNat, hL, hat.get, g2, hat.live, hlt, celK0, celK1, celK2, encK_len, Int.not_lt.2 hc, pf, pa, p0, p1, p2, e1]) | ((with_reducible refine And.intro ?_ ?_); omega) | ((with_reducible refine isWKr (id := 8) ?_); refine WK_drawUp 8 [[],[],[],[],[2,3],[2,3,4],[2,3,4,5],[2,3,4,5,6],[1,2,3,4,5,6,7],[],[],[10],[9,10,11],[9,10,11,12],[9,10,11,12,13],[9,10,11,12,13,14],[],[],[16,17],[16,17,18],[16,17,18,19],[16,17,18,19,20],[9,10,11,12,13,14,15,16,17,18,19,20,21],[0,1,2,3,4,5,6,7,8,9,10,11,12,13,14,15,16,17,18,19,20,21,22],[0,1,2,3,4,5,6,7,8,9,10,11,12,13,14,15,16,17,18,19,20,21,22,23]] 23 (by kernel_rfl) ?_; dsimp only [List.take, List.drop]) | ((with_reducible refine isWKr (id := 9) ?_); refine WK_drawUp 9 [[],[],[],[2],[1,2,3],[1,2,3,4],[1,2,3,4,5],[1,2,3,4,5,6],[],[0,1,2,3,4,5,6,7,8],[],[],[],[12],[11,12,13],[11,12,13,14],[11,12,13,14,15],[11,12,13,14,15,16],[],[0,1,2,3,4,5,6,7,8,9,10,11,12,13,14,15,16,17,18],[0,1,2,3,4,5,6,7,8,9,10,11,12,13,14,15,16,17,18,19],[0,1,2,3,4,5,6,7,8,9,10,11,12,13,14,15,16,17,18,19,20]] 19 (by kernel_rfl) ?_; dsimp only [List.take, List.drop]) | ((with_reducible refine And.intro ?_ ?_); first | (with_reducible rfl) | assumption | (simp only [go_sem]; done)))
    first | refine ret_same hq _ (.inl rfl) ?_ | refine ret_cut hq hw _ (.inl rfl) ?_
    simp [go_sem, r]

end Go.Proofs.YtcebmjajnbafoaaGreatDoor
