/- Contracts of functions of the translated program, by the walk. -/
import Derived.Test.YtpginknbmmdmoaaS1
import Derived.Test.YtpginknbmmdmoaaB1
import Derived.Test.YtpginknbmmdmoaaLD
set_option linter.unusedVariables false
set_option linter.unusedSimpArgs false
set_option maxRecDepth 8000
set_option maxHeartbeats 4000000
namespace Go.Proofs.Ytpginknbmmdmoaa
open Go Go.Sx

theorem specSameScene {H : List Blk} {v v2 : V} {l m : List (Nat → Int)} (h : Rd H v encL l) (h2 : Rd H v2 encL m) (hl : l.length ≤ 1000000000) (hm : m.length ≤ 1000000000) : Cal Try.prog 20 [v, v2] H fun u H' => u = .v (.bool (eqS l m)) ∧ H' = H := by
  have hL := h.lenV (P := Try.prog) slTy34
  have hL2 := h2.lenV (P := Try.prog) slTy34
  have hok : ∀ a, okV [.i .u16, .i .u16, .i .u16, .i .u16, .i .u16, .i .u16, .i .u16, .i .u16, .i .u16, .i .u16, .i .u16, .i .u16, .i .u16, .i .u16, .i .u16, .i .u16, .i .u16, .i .u16, .i .u16, .i .u16, .i .u16, .i .u16, .i .u16, .i .u16, .i .i8, .i .i8, .i .i8] (encL a) = true := okV_encL
  refine cal_fn 24 mixed Try.func20 Try.ntmps20 Try.results20 rfl rfl rfl fun hw x hx hq => ?_
  by_cases hlm : l.length = m.length
  case neg =>
    have hne : ((l.length : Int) = m.length) = False := eq_false (by omega)
    repeat (first | (simp only [go_sem, Int.reduceLT, Int.reduceLE, Int.reduceEq, Int.reduceToNat, hL, hL2, hne]) | ((with_reducible refine And.intro ?_ ?_); omega) | ((with_reducible refine isWKr (id := 6) ?_); refine WK_drawAt 6 [[],[],[0,1],[0,1,2],[],[],[4,5],[4,5,6],[0,1,2,3,4,5,6,7]] (by kernel_rfl) ?_) | ((with_reducible refine And.intro ?_ ?_); first | (with_reducible rfl) | assumption | (simp only [go_sem]; done)))
    refine ret_same hq _ (.inl rfl) ?_
    simp [go_sem, eqS_len hlm]
  have hne : ((l.length : Int) = m.length) = True := eq_true (by omega)
  repeat (first | (simp only [go_sem, Int.reduceLT, Int.reduceLE, Int.reduceEq, Int.reduceToNat, hL, hL2, hne]) | ((with_reducible refine And.intro ?_ ?_); omega) | ((with_reducible refine isWKr (id := 6) ?_); refine WK_drawAt 6 [[],[],[0,1],[0,1,2],[],[],[4,5],[4,5,6],[0,1,2,3,4,5,6,7]] (by kernel_rfl) ?_) | ((with_reducible refine And.intro ?_ ?_); first | (with_reducible rfl) | assumption | (simp only [go_sem]; done)))
  refine WK_for (fun n : Nat => ⟨[v, v2, .any, .any, .v (.bool false), .v (.int .i64 n)] ++ junk 20, H⟩) (fun n => n ≤ l.length ∧ ∀ j (hj : j < l.length), j < n → eqLy l[j] (m[j]'(by omega)) = true) (fun n => l.length - n) 0 (Weak.slots ?_) ?_ fun n hn => ?_
  · simp [go_sem]
  · simp
  rcases Int.lt_or_le (n : Int) l.length with hc | hc
  · have hj : n < l.length := by omega
    obtain ⟨i, off, c, bl, rfl, hat⟩ := h.row (by omega)
    obtain ⟨i2, off2, c2, bl2, rfl, hat2⟩ := h2.row (by omega)
    have hfit := hat.fits encL 27 encL_len hj (by omega)
    have hfit2 := hat2.fits encL 27 encL_len (show n < m.length by omega) (by omega)
    have hmm : (n : Int) < m.length := by omega
    cases e : eqLy l[n] m[n]
    · repeat (first | (simp only [go_sem, Int.reduceLT, Int.reduceLE, Int.reduceEq, Int.reduceToNat, hc, hmm, hat.get, hat.live, hat.elem encL 27 encL_len hj, hat2.get, hat2.live, hat2.elem encL 27 encL_len (show n < m.length by omega), hok, eqL_encL, e]) | ((with_reducible refine And.intro ?_ ?_); omega) | ((with_reducible refine isWKr (id := 6) ?_); refine WK_drawAt 6 [[],[],[0,1],[0,1,2],[],[],[4,5],[4,5,6],[0,1,2,3,4,5,6,7]] (by kernel_rfl) ?_) | ((with_reducible refine And.intro ?_ ?_); first | (with_reducible rfl) | assumption | (simp only [go_sem]; done)))
      refine ret_same hq _ (.inl rfl) ?_
      simp [go_sem, eqS_false n hj (by omega) e]
    · repeat (first | (simp only [go_sem, Int.reduceLT, Int.reduceLE, Int.reduceEq, Int.reduceToNat, hc, hmm, hat.get, hat.live, hat.elem encL 27 encL_len hj, hat2.get, hat2.live, hat2.elem encL 27 encL_len (show n < m.length by omega), hok, eqL_encL, e]) | ((with_reducible refine And.intro ?_ ?_); omega) | ((with_reducible refine isWKr (id := 6) ?_); refine WK_drawAt 6 [[],[],[0,1],[0,1,2],[],[],[4,5],[4,5,6],[0,1,2,3,4,5,6,7]] (by kernel_rfl) ?_) | ((with_reducible refine And.intro ?_ ?_); first | (with_reducible rfl) | assumption | (simp only [go_sem]; done)))
      refine EK_again (n + 1) (Weak.slots (by simp [go_sem])) ⟨by omega, fun j hj2 hj3 => ?_⟩ (by omega)
      by_cases e2 : j = n
      · subst e2; exact e
      · exact hn.2 j hj2 (by omega)
  · repeat (first | (simp only [go_sem, Int.reduceLT, Int.reduceLE, Int.reduceEq, Int.reduceToNat, hL, Int.not_lt.2 hc]) | ((with_reducible refine And.intro ?_ ?_); omega) | ((with_reducible refine isWKr (id := 6) ?_); refine WK_drawAt 6 [[],[],[0,1],[0,1,2],[],[],[4,5],[4,5,6],[0,1,2,3,4,5,6,7]] (by kernel_rfl) ?_) | ((with_reducible refine And.intro ?_ ?_); first | (with_reducible rfl) | assumption | (simp only [go_sem]; done)))
    refine ret_same hq _ (.inl rfl) ?_
    simp [go_sem, eqS_true hlm fun j hj => hn.2 j hj (by omega)]

theorem equalScene {H : List Blk} {v v2 : V} {l m : List (Nat → Int)} (h : Rd H v encL l) (h2 : Rd H v2 encL m) (hl : l.length ≤ 1000000000) (hm : m.length ≤ 1000000000) : Cal Try.prog 75 [v, v2] H fun u H' => u = .v (.bool (eqS l m)) ∧ H' = H := by
  have hL := h.lenV (P := Try.prog) slTy34
  have hL2 := h2.lenV (P := Try.prog) slTy34
  have hok : ∀ a, okV [.i .u16, .i .u16, .i .u16, .i .u16, .i .u16, .i .u16, .i .u16, .i .u16, .i .u16, .i .u16, .i .u16, .i .u16, .i .u16, .i .u16, .i .u16, .i .u16, .i .u16, .i .u16, .i .u16, .i .u16, .i .u16, .i .u16, .i .u16, .i .u16, .i .i8, .i .i8, .i .i8] (encL a) = true := okV_encL
  refine cal_fn 24 mixed Try.func75 Try.ntmps75 Try.results75 rfl rfl rfl fun hw x hx hq => ?_
  by_cases hlm : l.length = m.length
  case neg =>
    have hne : ((l.length : Int) = m.length) = False := eq_false (by omega)
    repeat (first | (simp only [go_sem, Int.reduceLT, Int.reduceLE, Int.reduceEq, Int.reduceToNat, hL, hL2, hne]) | ((with_reducible refine And.intro ?_ ?_); omega) | ((with_reducible refine isWKr (id := 6) ?_); refine WK_drawAt 6 [[],[],[0,1],[0,1,2],[],[],[4,5],[4,5,6],[0,1,2,3,4,5,6,7]] (by kernel_rfl) ?_) | ((with_reducible refine And.intro ?_ ?_); first | (with_reducible rfl) | assumption | (simp only [go_sem]; done)))
    refine ret_same hq _ (.inl rfl) ?_
    simp [go_sem, eqS_len hlm]
  have hne : ((l.length : Int) = m.length) = True := eq_true (by omega)
  repeat (first | (simp only [go_sem, Int.reduceLT, Int.reduceLE, Int.reduceEq, Int.reduceToNat, hL, hL2, hne]) | ((with_reducible refine And.intro ?_ ?_); omega) | ((with_reducible refine isWKr (id := 6) ?_); refine WK_drawAt 6 [[],[],[0,1],[0,1,2],[],[],[4,5],[4,5,6],[0,1,2,3,4,5,6,7]] (by kernel_rfl) ?_) | ((with_reducible refine And.intro ?_ ?_); first | (with_reducible rfl) | assumption | (simp only [go_sem]; done)))
  refine WK_for (fun n : Nat => ⟨[v, v2, .any, .any, .v (.bool false), .any, .any, .any, .any, .any, .any, .any, .v (.int .i64 l.length), .v (.int .i64 n)] ++ junk 12, H⟩) (fun n => n ≤ l.length ∧ ∀ j (hj : j < l.length), j < n → eqLy l[j] (m[j]'(by omega)) = true) (fun n => l.length - n) 0 (Weak.slots ?_) ?_ fun n hn => ?_
  · simp [go_sem]
  · simp
  rcases Int.lt_or_le (n : Int) l.length with hc | hc
  · have hj : n < l.length := by omega
    obtain ⟨i, off, c, bl, rfl, hat⟩ := h.row (by omega)
    obtain ⟨i2, off2, c2, bl2, rfl, hat2⟩ := h2.row (by omega)
    have hfit := hat.fits encL 27 encL_len hj (by omega)
    have hfit2 := hat2.fits encL 27 encL_len (show n < m.length by omega) (by omega)
    have hmm : (n : Int) < m.length := by omega
    cases e : eqLy l[n] m[n]
    · repeat (first | (simp only [go_sem, Int.reduceLT, Int.reduceLE, Int.reduceEq, Int.reduceToNat, hc, hmm, hat.get, hat.live, hat.elem encL 27 encL_len hj, hat2.get, hat2.live, hat2.elem encL 27 encL_len (show n < m.length by omega), hok, eqL_encL, e]) | ((with_reducible refine And.intro ?_ ?_); omega) | ((with_reducible refine isWKr (id := 6) ?_); refine WK_drawAt 6 [[],[],[0,1],[0,1,2],[],[],[4,5],[4,5,6],[0,1,2,3,4,5,6,7]] (by kernel_rfl) ?_) | ((with_reducible refine And.intro ?_ ?_); first | (with_reducible rfl) | assumption | (simp only [go_sem]; done)))
      refine ret_same hq _ (.inl rfl) ?_
      simp [go_sem, eqS_false n hj (by omega) e]
    · repeat (first | (simp only [go_sem, Int.reduceLT, Int.reduceLE, Int.reduceEq, Int.reduceToNat, hc, hmm, hat.get, hat.live, hat.elem encL 27 encL_len hj, hat2.get, hat2.live, hat2.elem encL 27 encL_len (show n < m.length by omega), hok, eqL_encL, e]) | ((with_reducible refine And.intro ?_ ?_); omega) | ((with_reducible refine isWKr (id := 6) ?_); refine WK_drawAt 6 [[],[],[0,1],[0,1,2],[],[],[4,5],[4,5,6],[0,1,2,3,4,5,6,7]] (by kernel_rfl) ?_) | ((with_reducible refine And.intro ?_ ?_); first | (with_reducible rfl) | assumption | (simp only [go_sem]; done)))
      refine EK_again (n + 1) (Weak.slots (by simp [go_sem])) ⟨by omega, fun j hj2 hj3 => ?_⟩ (by omega)
      by_cases e2 : j = n
      · subst e2; exact e
      · exact hn.2 j hj2 (by omega)
  · repeat (first | (simp only [go_sem, Int.reduceLT, Int.reduceLE, Int.reduceEq, Int.reduceToNat, hL, Int.not_lt.2 hc]) | ((with_reducible refine And.intro ?_ ?_); omega) | ((with_reducible refine isWKr (id := 6) ?_); refine WK_drawAt 6 [[],[],[0,1],[0,1,2],[],[],[4,5],[4,5,6],[0,1,2,3,4,5,6,7]] (by kernel_rfl) ?_) | ((with_reducible refine And.intro ?_ ?_); first | (with_reducible rfl) | assumption | (simp only [go_sem]; done)))
    refine ret_same hq _ (.inl rfl) ?_
    simp [go_sem, eqS_true hlm fun j hj => hn.2 j hj (by omega)]

theorem implSameScene {H : List Blk} {v v2 : V} {l m : List (Nat → Int)} (h : Rd H v encL l) (h2 : Rd H v2 encL m) (hl : l.length ≤ 1000000000) (hm : m.length ≤ 1000000000) : Cal Try.prog 22 [v, v2] H fun u H' => u = .v (.bool (eqS l m)) ∧ H' = H := by
  have hs := h.solid
  have hs2 := h2.solid
  refine cal_fn 6 mixed Try.func22 Try.ntmps22 Try.results22 rfl rfl rfl fun hw x hx hq => ?_
  repeat (first | (simp only [go_sem, Int.reduceLT, Int.reduceLE, Int.reduceEq, Int.reduceToNat, hs, hs2]) | ((with_reducible refine And.intro ?_ ?_); omega) | ((with_reducible refine isSK ?_); first | (refine call_ret (equalScene h h2 hl hm) (by simp only [go_sem, Int.reduceLT, Int.reduceLE, Int.reduceEq, Int.reduceToNat, hs, hs2]) ?_)) | ((with_reducible refine isMC ?_); first | (refine mcall_ret (equalScene h h2 hl hm) (by simp only [go_sem, Int.reduceLT, Int.reduceLE, Int.reduceEq, Int.reduceToNat, hs, hs2]) (by simp only [go_sem, Int.reduceLT, Int.reduceLE, Int.reduceEq, Int.reduceToNat, hs, hs2]) ?_)) | ((with_reducible refine And.intro ?_ ?_); first | (with_reducible rfl) | assumption | (simp only [go_sem]; done)))
  refine ret_same hq _ (.inl rfl) ?_
  simp [go_sem]
end Go.Proofs.Ytpginknbmmdmoaa


