/- Contracts of functions of the translated program, by the walk. -/
import Derived.Test.YtpjimhkblldhaaaDoorRd3
set_option linter.unusedVariables false
set_option linter.unusedSimpArgs false
set_option maxRecDepth 8000
set_option maxHeartbeats 4000000
namespace Go.Proofs.YtpjimhkblldhaaaDoor
open Go Go.Sx
theorem numN_long {t : List Int} (h : 10 < t.length) : numN t = none := if_pos (.inr (.inl h))
theorem numN_zero {t : List Int} (h : t.head? = some 48) (h1 : 1 < t.length) : numN t = none := if_pos (.inr (.inr ⟨h, h1⟩))
theorem numLoop {H : List Blk} {t : List Int} (h8 : B8 t) (hl : t.length ≤ 10) (h0 : t ≠ []) (h1 : ¬ (t.head? = some 48 ∧ 1 < t.length)) : numN t = digN 0 t := by
  unfold numN
  rw [if_neg]
  simp only [not_or]
  exact ⟨h0, by omega, h1⟩
theorem l01Number {H : List Blk} {t : List Int} (h8 : B8 t) (hl : t.length ≤ 1000000) :
    Cal Tryd.prog 38 [.v (.string (bstr t))] H fun u H' => u = .t [.v (.int .i64 (((numN t).getD 0 : Nat) : Int)), .v (.bool (numN t).isSome)] ∧ H' = H := by
  have hbs := bstr_size t
  by_cases h0 : t = []
  · have e : numN t = none := if_pos (.inl h0)
    have e1 : ((bstr t).toList = (bstr []).toList) = True := eq_true (by rw [h0])
    refine cal_fn 47 mixed Tryd.func38 Tryd.ntmps38 Tryd.results38 rfl rfl rfl fun hw cx hx hq => ?_
    repeat (first | (simp only [go_sem, Int.reduceLT, Int.reduceLE, Int.reduceEq, Int.reduceToNat, bs0, e1]) | ((with_reducible refine And.intro ?_ ?_); omega) | ((with_reducible refine And.intro ?_ ?_); first | (with_reducible rfl) | assumption | (simp only [go_sem]; done)))
    refine ret_same hq _ (.inl rfl) ?_
    simp [go_sem, e]
  have hn0 : ((bstr t).toList = (bstr []).toList) = False := eq_false (by rw [bstr_toL, bstr_toL]; intro h; exact h0 (u8L_inj h8 (fun x hx => by cases hx) h))
  have hpos : 0 < t.length := List.length_pos_iff.2 h0
  by_cases h10 : 10 < t.length
  · have e := numN_long h10
    have e1 : ((10 : Int) < (t.length : Int)) = True := eq_true (by omega)
    refine cal_fn 47 mixed Tryd.func38 Tryd.ntmps38 Tryd.results38 rfl rfl rfl fun hw cx hx hq => ?_
    repeat (first | (simp only [go_sem, Int.reduceLT, Int.reduceLE, Int.reduceEq, Int.reduceToNat, bs0, hn0, hbs, e1]) | ((with_reducible refine And.intro ?_ ?_); omega) | ((with_reducible refine And.intro ?_ ?_); first | (with_reducible rfl) | assumption | (simp only [go_sem]; done)))
    refine ret_same hq _ (.inl rfl) ?_
    simp [go_sem, e]
  have hl10 : ((10 : Int) < (t.length : Int)) = False := eq_false (by omega)
  have hat0 := str_at t h8 hpos
  have hhd : t.head? = some t[0] := by rw [List.head?_eq_getElem?, List.getElem?_eq_getElem hpos]
  have zl : ((0 : Int) < (t.length : Int)) = True := eq_true (by omega)
  by_cases h48 : t[0] = 48 ∧ 1 < t.length
  · have e := numN_zero (by rw [hhd, h48.1]) h48.2
    have e1 : (t[0] = 48) = True := eq_true h48.1
    have e2 : ((1 : Int) < (t.length : Int)) = True := eq_true (by omega)
    refine cal_fn 47 mixed Tryd.func38 Tryd.ntmps38 Tryd.results38 rfl rfl rfl fun hw cx hx hq => ?_
    repeat (first | (simp only [go_sem, Int.reduceLT, Int.reduceLE, Int.reduceEq, Int.reduceToNat, bs0, hn0, hbs, hl10, hat0, zl, hpos, e1, e2]) | ((with_reducible refine And.intro ?_ ?_); omega) | ((with_reducible refine And.intro ?_ ?_); first | (with_reducible rfl) | assumption | (simp only [go_sem]; done)))
    refine ret_same hq _ (.inl rfl) ?_
    simp [go_sem, e]
  have hN : numN t = digN 0 t := numLoop (H := H) h8 (by omega) h0 (by rw [hhd]; intro h; exact h48 ⟨Option.some.inj h.1, h.2⟩)
  refine cal_fn 47 mixed Tryd.func38 Tryd.ntmps38 Tryd.results38 rfl rfl rfl fun hw cx hx hq => ?_
  have hb48 : (decide (t[0] = 48) && decide ((1 : Int) < (t.length : Int))) = false := by
    rw [Bool.eq_false_iff]
    intro h
    simp only [Bool.and_eq_true, decide_eq_true_eq] at h
    exact h48 ⟨h.1, by omega⟩
  by_cases hq48 : t[0] = 48
  · have e1 : (t[0] = 48) = True := eq_true hq48
    have e2 : ((1 : Int) < (t.length : Int)) = False := eq_false fun h => h48 ⟨hq48, by omega⟩
    repeat (first | (simp only [go_sem, Int.reduceLT, Int.reduceLE, Int.reduceEq, Int.reduceToNat, bs0, hn0, hbs, hl10, hat0, zl, hpos, e1, e2]) | ((with_reducible refine And.intro ?_ ?_); omega) | ((with_reducible refine And.intro ?_ ?_); first | (with_reducible rfl) | assumption | (simp only [go_sem]; done)))
    refine WK_for (fun q : Nat × Nat => ⟨[.v (.string (bstr t)), .any, .any, .any, .v (.int .i64 q.2), .v (.int .i64 q.1)] ++ junk 42, H⟩) (fun q => q.1 ≤ t.length ∧ q.2 < 10 ^ q.1 ∧ digN q.2 (t.drop q.1) = digN 0 t) (fun q => t.length - q.1) (0, 0) (Weak.slots ?_) ?_ fun q hq0 => ?_
    · simp [go_sem]
    · exact ⟨Nat.zero_le _, by simp, rfl⟩
    obtain ⟨n, a⟩ := q
    obtain ⟨hn, ha, hd⟩ := hq0
    simp only at hn ha hd ⊢
    rcases Int.lt_or_le (n : Int) t.length with hc | hc
    · have hj : n < t.length := by omega
      have hci : ((n : Int) < (t.length : Int)) = True := eq_true hc
      have hat := str_at t h8 hj
      have h8c := h8 _ (List.getElem_mem hj)
      rw [List.drop_eq_getElem_cons hj, digN] at hd
      have hp9 : 10 ^ n ≤ 10 ^ 9 := Nat.pow_le_pow_right (by omega) (by omega)
      generalize t[n] = c at hat h8c hd
      by_cases hlo : c < 48
      · have e3 : (c < 48) = True := eq_true hlo
        rw [if_neg (by omega), ← hN] at hd
        repeat (first | (simp only [go_sem, Int.reduceLT, Int.reduceLE, Int.reduceEq, Int.reduceToNat, hbs, hci, hat, hj, e3]) | ((with_reducible refine And.intro ?_ ?_); omega) | ((with_reducible refine And.intro ?_ ?_); first | (with_reducible rfl) | assumption | (simp only [go_sem]; done)))
        refine ret_same hq _ (.inl rfl) ?_
        simp [go_sem, ← hd]
      have e3 : (c < 48) = False := eq_false hlo
      by_cases hhi : 57 < c
      · have e4 : (57 < c) = True := eq_true hhi
        rw [if_neg (by omega), ← hN] at hd
        repeat (first | (simp only [go_sem, Int.reduceLT, Int.reduceLE, Int.reduceEq, Int.reduceToNat, hbs, hci, hat, hj, e3, e4]) | ((with_reducible refine And.intro ?_ ?_); omega) | ((with_reducible refine And.intro ?_ ?_); first | (with_reducible rfl) | assumption | (simp only [go_sem]; done)))
        refine ret_same hq _ (.inl rfl) ?_
        simp [go_sem, ← hd]
      have e4 : (57 < c) = False := eq_false hhi
      rw [if_pos (by omega)] at hd
      have ew : IntKind.u8.wrap (c - 48) = (((c - 48).toNat : Nat) : Int) := by rw [wrap_u8c (by omega) (by omega)]; omega
      repeat (first | (simp only [go_sem, Int.reduceLT, Int.reduceLE, Int.reduceEq, Int.reduceToNat, hbs, hci, hat, hj, e3, e4, ew]) | ((with_reducible refine And.intro ?_ ?_); omega) | ((with_reducible refine And.intro ?_ ?_); first | (with_reducible rfl) | assumption | (simp only [go_sem]; done)))
      refine EK_again (n + 1, 10 * a + (c - 48).toNat) (Weak.slots ?_) ⟨by simp only; omega, ?_, hd⟩ (by simp only; omega)
      · simp [go_sem]
      · simp only [Nat.pow_succ]; omega
    · have : n = t.length := by omega
      subst this
      have hci : ((t.length : Int) < (t.length : Int)) = False := eq_false (by omega)
      rw [List.drop_length, digN, ← hN] at hd
      repeat (first | (simp only [go_sem, Int.reduceLT, Int.reduceLE, Int.reduceEq, Int.reduceToNat, hbs, hci]) | ((with_reducible refine And.intro ?_ ?_); omega) | ((with_reducible refine And.intro ?_ ?_); first | (with_reducible rfl) | assumption | (simp only [go_sem]; done)))
      refine ret_same hq _ (.inl rfl) ?_
      simp [go_sem, ← hd]
  · have e1 : (t[0] = 48) = False := eq_false hq48
    repeat (first | (simp only [go_sem, Int.reduceLT, Int.reduceLE, Int.reduceEq, Int.reduceToNat, bs0, hn0, hbs, hl10, hat0, zl, hpos, e1]) | ((with_reducible refine And.intro ?_ ?_); omega) | ((with_reducible refine And.intro ?_ ?_); first | (with_reducible rfl) | assumption | (simp only [go_sem]; done)))
    refine WK_for (fun q : Nat × Nat => ⟨[.v (.string (bstr t)), .any, .any, .any, .v (.int .i64 q.2), .v (.int .i64 q.1)] ++ junk 42, H⟩) (fun q => q.1 ≤ t.length ∧ q.2 < 10 ^ q.1 ∧ digN q.2 (t.drop q.1) = digN 0 t) (fun q => t.length - q.1) (0, 0) (Weak.slots ?_) ?_ fun q hq0 => ?_
    · simp [go_sem]
    · exact ⟨Nat.zero_le _, by simp, rfl⟩
    obtain ⟨n, a⟩ := q
    obtain ⟨hn, ha, hd⟩ := hq0
    simp only at hn ha hd ⊢
    rcases Int.lt_or_le (n : Int) t.length with hc | hc
    · have hj : n < t.length := by omega
      have hci : ((n : Int) < (t.length : Int)) = True := eq_true hc
      have hat := str_at t h8 hj
      have h8c := h8 _ (List.getElem_mem hj)
      rw [List.drop_eq_getElem_cons hj, digN] at hd
      have hp9 : 10 ^ n ≤ 10 ^ 9 := Nat.pow_le_pow_right (by omega) (by omega)
      generalize t[n] = c at hat h8c hd
      by_cases hlo : c < 48
      · have e3 : (c < 48) = True := eq_true hlo
        rw [if_neg (by omega), ← hN] at hd
        repeat (first | (simp only [go_sem, Int.reduceLT, Int.reduceLE, Int.reduceEq, Int.reduceToNat, hbs, hci, hat, hj, e3]) | ((with_reducible refine And.intro ?_ ?_); omega) | ((with_reducible refine And.intro ?_ ?_); first | (with_reducible rfl) | assumption | (simp only [go_sem]; done)))
        refine ret_same hq _ (.inl rfl) ?_
        simp [go_sem, ← hd]
      have e3 : (c < 48) = False := eq_false hlo
      by_cases hhi : 57 < c
      · have e4 : (57 < c) = True := eq_true hhi
        rw [if_neg (by omega), ← hN] at hd
        repeat (first | (simp only [go_sem, Int.reduceLT, Int.reduceLE, Int.reduceEq, Int.reduceToNat, hbs, hci, hat, hj, e3, e4]) | ((with_reducible refine And.intro ?_ ?_); omega) | ((with_reducible refine And.intro ?_ ?_); first | (with_reducible rfl) | assumption | (simp only [go_sem]; done)))
        refine ret_same hq _ (.inl rfl) ?_
        simp [go_sem, ← hd]
      have e4 : (57 < c) = False := eq_false hhi
      rw [if_pos (by omega)] at hd
      have ew : IntKind.u8.wrap (c - 48) = (((c - 48).toNat : Nat) : Int) := by rw [wrap_u8c (by omega) (by omega)]; omega
      repeat (first | (simp only [go_sem, Int.reduceLT, Int.reduceLE, Int.reduceEq, Int.reduceToNat, hbs, hci, hat, hj, e3, e4, ew]) | ((with_reducible refine And.intro ?_ ?_); omega) | ((with_reducible refine And.intro ?_ ?_); first | (with_reducible rfl) | assumption | (simp only [go_sem]; done)))
      refine EK_again (n + 1, 10 * a + (c - 48).toNat) (Weak.slots ?_) ⟨by simp only; omega, ?_, hd⟩ (by simp only; omega)
      · simp [go_sem]
      · simp only [Nat.pow_succ]; omega
    · have : n = t.length := by omega
      subst this
      have hci : ((t.length : Int) < (t.length : Int)) = False := eq_false (by omega)
      rw [List.drop_length, digN, ← hN] at hd
      repeat (first | (simp only [go_sem, Int.reduceLT, Int.reduceLE, Int.reduceEq, Int.reduceToNat, hbs, hci]) | ((with_reducible refine And.intro ?_ ?_); omega) | ((with_reducible refine And.intro ?_ ?_); first | (with_reducible rfl) | assumption | (simp only [go_sem]; done)))
      refine ret_same hq _ (.inl rfl) ?_
      simp [go_sem, ← hd]
end Go.Proofs.YtpjimhkblldhaaaDoor

