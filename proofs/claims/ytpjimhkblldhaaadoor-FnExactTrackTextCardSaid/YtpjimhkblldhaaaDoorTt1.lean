/- Contracts of functions of the translated program, by the walk. -/
import Derived.Test.YtpjimhkblldhaaaDoorDt5
import Derived.Test.YtpjimhkblldhaaaDoorDt2
import Derived.Test.YtpjimhkblldhaaaDoorK4
set_option linter.unusedVariables false
set_option linter.unusedSimpArgs false
set_option maxRecDepth 8000
set_option maxHeartbeats 4000000
namespace Go.Proofs.YtpjimhkblldhaaaDoor
open Go Go.Sx
theorem bs45 : (ByteArray.mk #[45]) = bstr [45] := rfl
theorem bs44 : (ByteArray.mk #[44]) = bstr [44] := rfl
theorem bs58 : (ByteArray.mk #[58]) = bstr [58] := rfl
theorem l03Signed {H : List Blk} {i : Int} (h0 : -24 ≤ i) (h1 : i ≤ 24) : Cal Tryd.prog 53 [.v (.int .i64 i)] H fun u H' => u = .v (.string (bstr (decI i))) ∧ H' = H := by
  rcases Int.lt_or_le i 0 with h | h
  · obtain ⟨k, hk⟩ : ∃ k : Nat, i = -(k : Int) := ⟨i.natAbs, by omega⟩
    subst hk
    have hD := decT_len (i := k) (by omega)
    have e1 : (-(k : Int) < 0) = True := eq_true h
    have e5 : (0 : Int) - -(k : Int) = k := by omega
    rw [decI_neg (by omega)]
    refine cal_fn 10 mixed Tryd.func53 Tryd.ntmps53 Tryd.results53 rfl rfl rfl fun hw cx hx hq => ?_
    repeat (first | (simp only [go_sem, Int.reduceLT, Int.reduceLE, Int.reduceEq, Int.reduceToNat, e1, e5, bs45, bstr_app, bstr_size, List.length_singleton, List.singleton_append]) | ((with_reducible refine And.intro ?_ ?_); omega) | ((with_reducible refine isSK ?_); first | (refine call_ret (decimalS (i := k) (by omega)) (by simp only [go_sem, Int.reduceLT, Int.reduceLE, Int.reduceEq, Int.reduceToNat, e1, e5, bs45, bstr_app, bstr_size, List.length_singleton, List.singleton_append]) ?_)) | ((with_reducible refine isMC ?_); first | (refine mcall_ret (decimalS (i := k) (by omega)) (by simp only [go_sem, Int.reduceLT, Int.reduceLE, Int.reduceEq, Int.reduceToNat, e1, e5, bs45, bstr_app, bstr_size, List.length_singleton, List.singleton_append]) (by simp only [go_sem, Int.reduceLT, Int.reduceLE, Int.reduceEq, Int.reduceToNat, e1, e5, bs45, bstr_app, bstr_size, List.length_singleton, List.singleton_append]) ?_)) | ((with_reducible refine And.intro ?_ ?_); first | (with_reducible rfl) | assumption | (simp only [go_sem]; done)))
    refine ret_same hq _ (.inl rfl) ?_
    simp [go_sem]
  · obtain ⟨k, rfl⟩ := Int.eq_ofNat_of_zero_le h
    have e1 : ((k : Int) < 0) = False := eq_false (by omega)
    rw [decI_nat]
    refine cal_fn 10 mixed Tryd.func53 Tryd.ntmps53 Tryd.results53 rfl rfl rfl fun hw cx hx hq => ?_
    repeat (first | (simp only [go_sem, Int.reduceLT, Int.reduceLE, Int.reduceEq, Int.reduceToNat, e1]) | ((with_reducible refine And.intro ?_ ?_); omega) | ((with_reducible refine isSK ?_); first | (refine call_ret (decimalS (i := k) (by omega)) (by simp only [go_sem, Int.reduceLT, Int.reduceLE, Int.reduceEq, Int.reduceToNat, e1]) ?_)) | ((with_reducible refine isMC ?_); first | (refine mcall_ret (decimalS (i := k) (by omega)) (by simp only [go_sem, Int.reduceLT, Int.reduceLE, Int.reduceEq, Int.reduceToNat, e1]) (by simp only [go_sem, Int.reduceLT, Int.reduceLE, Int.reduceEq, Int.reduceToNat, e1]) ?_)) | ((with_reducible refine And.intro ?_ ?_); first | (with_reducible rfl) | assumption | (simp only [go_sem]; done)))
    refine ret_same hq _ (.inl rfl) ?_
    simp [go_sem]
/-- A key's text. -/
def keyT (a : Nat → Int) : List Int := decI (a 0) ++ [58] ++ decI (a 1) ++ [44] ++ decI (a 2)
theorem keyT_len {a : Nat → Int} (h : okK a = true) : (keyT a).length ≤ 11 := by
  have := okK_iff.1 h
  have h0 := decI_len (i := a 0) (by omega) (by omega)
  have h1 := decI_len (i := a 1) (by omega) (by omega)
  have h2 := decI_len (i := a 2) (by omega) (by omega)
  simp only [keyT, List.length_append, List.length_singleton]
  omega
def trkL (l : List (Nat → Int)) : List (List Int) := l.map keyT
def trkT (l : List (Nat → Int)) : List Int := jnT [32] (trkL l)
theorem trkL_len (l : List (Nat → Int)) : (trkL l).length = l.length := by simp [trkL]
theorem trkL_succ {l : List (Nat → Int)} {n : Nat} (h : n < l.length) : trkL (l.take (n + 1)) = trkL (l.take n) ++ [keyT l[n]] := by
  unfold trkL; rw [List.take_succ_eq_append_getElem h, List.map_append]; rfl
theorem trkT_len {l : List (Nat → Int)} (h : ∀ a ∈ l, okK a = true) : (trkT l).length ≤ 12 * l.length := by
  have h1 := jnT_len (s := [32]) (k := 12) (xs := trkL l) (by
    intro x hx
    unfold trkL at hx
    obtain ⟨a, ha, rfl⟩ := List.mem_map.1 hx
    have := keyT_len (h a ha)
    simp; omega)
  rw [trkL_len] at h1
  exact h1
theorem trkT_1 {l : List (Nat → Int)} (h : 0 < l.length) : trkT (l.take 1) = keyT l[0] := by
  have := trkL_succ (l := l) (n := 0) h
  unfold trkT
  rw [Nat.zero_add] at this
  rw [this]
  simp [trkL, jnT]
theorem trkT_succ {l : List (Nat → Int)} {n : Nat} (h : n < l.length) (h0 : n ≠ 0) : trkT (l.take (n + 1)) = trkT (l.take n) ++ [32] ++ keyT l[n] := by
  unfold trkT
  rw [trkL_succ h, jnT_snoc]
  intro e
  have := congrArg List.length e
  rw [trkL_len, List.length_take, List.length_nil] at this
  omega
theorem trkT_nil : trkT [] = [] := rfl
theorem trkL_nil : trkL [] = [] := rfl
/-- What TrackText answers. -/
def ttT (l : List (Nat → Int)) : List Int := if tkOk l = true then trkT l else []
theorem l03Text {H : List Blk} {v : V} {l : List (Nat → Int)} (h : Rd H v encK l) (hv : tkOk l = true) :
    Cal Tryd.prog 33 [v] H fun u H' => u = .v (.string (bstr (trkT l))) ∧ H' = H := by
  have hlen := tkOk_len hv
  have hsol := h.solid
  have hL := h.lenV (P := Tryd.prog) slTy31
  refine cal_fn 42 mixed Tryd.func33 Tryd.ntmps33 Tryd.results33 rfl rfl rfl fun hw cx hx hq => ?_
  repeat (first | (simp only [go_sem, Int.reduceLT, Int.reduceLE, Int.reduceEq, Int.reduceToNat, hsol, bs0]) | ((with_reducible refine And.intro ?_ ?_); omega) | ((with_reducible refine isWKr (id := 7) ?_); refine WK_drawAt 7 [[],[],[],[1,2],[1,2,3],[1,2,3,4],[1,2,3,4,5],[1,2,3,4,5,6],[1,2,3,4,5,6,7],[],[],[9,10],[9,10,11],[9,10,11,12],[9,10,11,12,13],[1,2,3,4,5,6,7,9,10,11,12,13,14],[1,2,3,4,5,6,7,8,9,10,11,12,13,14,15],[1,2,3,4,5,6,7,8,9,10,11,12,13,14,15,16],[],[],[18,19],[18,19,20],[18,19,20,21],[18,19,20,21,22],[1,2,3,4,5,6,7,9,10,11,12,13,14,15,18,19,20,21,22,23],[1,2,3,4,5,6,7,8,9,10,11,12,13,14,15,16,17,18,19,20,21,22,23,24],[0,1,2,3,4,5,6,7,8,9,10,11,12,13,14,15,16,17,18,19,20,21,22,23,24,25],[0,1,2,3,4,5,6,7,8,9,10,11,12,13,14,15,16,17,18,19,20,21,22,23,24,25,26]] (by kernel_rfl) ?_) | ((with_reducible refine And.intro ?_ ?_); first | (with_reducible rfl) | assumption | (simp only [go_sem]; done)))
  refine WK_for (fun n : Nat => ⟨[v, .any, .any, .v (.string (bstr (trkT (l.take n)))), .v (.int .i64 n)] ++ junk 38, H⟩) (fun n => n ≤ l.length) (fun n => l.length - n) 0 (Weak.slots ?_) (Nat.zero_le _) fun n hn => ?_
  · simp [go_sem, trkT_nil]
  rcases Int.lt_or_le (n : Int) l.length with hc | hc
  · skip
    have hj : n < l.length := by omega
    obtain ⟨i, off, c, b, rfl, hat, hfit⟩ := h.full (by omega)
    have hlt := hat.lt
    have g2 : ∀ L : List Blk, (H ++ L)[i]? = some b := fun L => get_app hat.get
    have pa := hat.elem encK 3 encK_len hj
    have pe : At H i (off + n * 3) (rowK kK 3 l[n]) b := hat.el encK_len hj
    have pf := hat.fits encK 3 encK_len hj (by omega)
    have c0 : cel b.cells (off + n * 3) = .v (.int .i16 (l[n] 0)) := pe.celK (j := 0) (by omega)
    have c1 : cel b.cells (off + n * 3 + 1) = .v (.int .i8 (l[n] 1)) := pe.celK (j := 1) (by omega)
    have c2 : cel b.cells (off + n * 3 + 2) = .v (.int .i8 (l[n] 2)) := pe.celK (j := 2) (by omega)
    simp only [Nat.add_assoc] at c1 c2
    have pk := okK_iff.1 (tkOk_at hv hj).1
    have hKT := keyT_len (tkOk_at hv hj).1
    have d0 := decI_len (i := l[n] 0) (by omega) (by omega)
    have d1 := decI_len (i := l[n] 1) (by omega) (by omega)
    have d2 := decI_len (i := l[n] 2) (by omega) (by omega)
    obtain ⟨k, hk2⟩ := Int.eq_ofNat_of_zero_le pk.1.1
    have e0 : decI (l[n] 0) = decT k := by rw [hk2, decI_nat]
    have hkT : keyT l[n] = decT k ++ [58] ++ decI (l[n] 1) ++ [44] ++ decI (l[n] 2) := by unfold keyT; rw [e0]
    rw [hk2] at c0
    rw [e0] at d0
    by_cases h0 : n = 0
    · subst h0
      have e3 := trkT_1 hj
      rw [hkT] at e3
      rw [List.take_zero, trkT_nil]
      have hn0 : ((0 : Int) < ((0 : Nat) : Int)) = False := eq_false (by omega)
      simp only [Nat.zero_mul, Nat.add_zero, Nat.zero_add] at c0 c1 c2 pf
      repeat (first | (simp only [go_sem, Int.reduceLT, Int.reduceLE, Int.reduceEq, Int.reduceToNat, hL, hc, hn0, hat.get, hat.live, pf, c0, c1, c2, Nat.zero_mul, bs44, bs58, bstr_app, bstr_size, List.length_append, List.length_singleton, List.length_nil, List.nil_append]) | ((with_reducible refine And.intro ?_ ?_); omega) | ((with_reducible refine isSK ?_); first | (refine call_ret (decimalSG (i := k) (by omega)) (by simp only [go_sem, Int.reduceLT, Int.reduceLE, Int.reduceEq, Int.reduceToNat, hL, hc, hn0, hat.get, hat.live, pf, c0, c1, c2, Nat.zero_mul, bs44, bs58, bstr_app, bstr_size, List.length_append, List.length_singleton, List.length_nil, List.nil_append]) ?_) | (refine call_ret (l03Signed (by omega) (by omega)) (by simp only [go_sem, Int.reduceLT, Int.reduceLE, Int.reduceEq, Int.reduceToNat, hL, hc, hn0, hat.get, hat.live, pf, c0, c1, c2, Nat.zero_mul, bs44, bs58, bstr_app, bstr_size, List.length_append, List.length_singleton, List.length_nil, List.nil_append]) ?_)) | ((with_reducible refine isMC ?_); first | (refine mcall_ret (decimalSG (i := k) (by omega)) (by simp only [go_sem, Int.reduceLT, Int.reduceLE, Int.reduceEq, Int.reduceToNat, hL, hc, hn0, hat.get, hat.live, pf, c0, c1, c2, Nat.zero_mul, bs44, bs58, bstr_app, bstr_size, List.length_append, List.length_singleton, List.length_nil, List.nil_append]) (by simp only [go_sem, Int.reduceLT, Int.reduceLE, Int.reduceEq, Int.reduceToNat, hL, hc, hn0, hat.get, hat.live, pf, c0, c1, c2, Nat.zero_mul, bs44, bs58, bstr_app, bstr_size, List.length_append, List.length_singleton, List.length_nil, List.nil_append]) ?_) | (refine mcall_ret (l03Signed (by omega) (by omega)) (by simp only [go_sem, Int.reduceLT, Int.reduceLE, Int.reduceEq, Int.reduceToNat, hL, hc, hn0, hat.get, hat.live, pf, c0, c1, c2, Nat.zero_mul, bs44, bs58, bstr_app, bstr_size, List.length_append, List.length_singleton, List.length_nil, List.nil_append]) (by simp only [go_sem, Int.reduceLT, Int.reduceLE, Int.reduceEq, Int.reduceToNat, hL, hc, hn0, hat.get, hat.live, pf, c0, c1, c2, Nat.zero_mul, bs44, bs58, bstr_app, bstr_size, List.length_append, List.length_singleton, List.length_nil, List.nil_append]) ?_)) | ((with_reducible refine isWKr (id := 7) ?_); refine WK_drawAt 7 [[],[],[],[1,2],[1,2,3],[1,2,3,4],[1,2,3,4,5],[1,2,3,4,5,6],[1,2,3,4,5,6,7],[],[],[9,10],[9,10,11],[9,10,11,12],[9,10,11,12,13],[1,2,3,4,5,6,7,9,10,11,12,13,14],[1,2,3,4,5,6,7,8,9,10,11,12,13,14,15],[1,2,3,4,5,6,7,8,9,10,11,12,13,14,15,16],[],[],[18,19],[18,19,20],[18,19,20,21],[18,19,20,21,22],[1,2,3,4,5,6,7,9,10,11,12,13,14,15,18,19,20,21,22,23],[1,2,3,4,5,6,7,8,9,10,11,12,13,14,15,16,17,18,19,20,21,22,23,24],[0,1,2,3,4,5,6,7,8,9,10,11,12,13,14,15,16,17,18,19,20,21,22,23,24,25],[0,1,2,3,4,5,6,7,8,9,10,11,12,13,14,15,16,17,18,19,20,21,22,23,24,25,26]] (by kernel_rfl) ?_) | ((with_reducible refine And.intro ?_ ?_); first | (with_reducible rfl) | assumption | (simp only [go_sem]; done)))
      refine EK_again (0 + 1) (Weak.slots ?_) (by omega) (by omega)
      rw [e3]
      simp [go_sem]
    · have e3 := trkT_succ hj h0
      rw [hkT] at e3
      have hT := trkT_len (l := l.take n) fun a ha => by
        obtain ⟨j, hj2, rfl⟩ := List.mem_iff_getElem.1 (List.mem_of_mem_take ha)
        exact (tkOk_at hv hj2).1
      rw [List.length_take] at hT
      have hT2 : (trkT (l.take n)).length ≤ 240 := by omega
      have hn0 : ((0 : Int) < n) = True := eq_true (by omega)
      repeat (first | (simp only [go_sem, Int.reduceLT, Int.reduceLE, Int.reduceEq, Int.reduceToNat, hL, hc, hn0, hat.get, hat.live, pf, c0, c1, c2, bs32, bs44, bs58, bstr_app, bstr_size, List.length_append, List.length_singleton, List.length_nil]) | ((with_reducible refine And.intro ?_ ?_); omega) | ((with_reducible refine isSK ?_); first | (refine call_ret (decimalSG (i := k) (by omega)) (by simp only [go_sem, Int.reduceLT, Int.reduceLE, Int.reduceEq, Int.reduceToNat, hL, hc, hn0, hat.get, hat.live, pf, c0, c1, c2, bs32, bs44, bs58, bstr_app, bstr_size, List.length_append, List.length_singleton, List.length_nil]) ?_) | (refine call_ret (l03Signed (by omega) (by omega)) (by simp only [go_sem, Int.reduceLT, Int.reduceLE, Int.reduceEq, Int.reduceToNat, hL, hc, hn0, hat.get, hat.live, pf, c0, c1, c2, bs32, bs44, bs58, bstr_app, bstr_size, List.length_append, List.length_singleton, List.length_nil]) ?_)) | ((with_reducible refine isMC ?_); first | (refine mcall_ret (decimalSG (i := k) (by omega)) (by simp only [go_sem, Int.reduceLT, Int.reduceLE, Int.reduceEq, Int.reduceToNat, hL, hc, hn0, hat.get, hat.live, pf, c0, c1, c2, bs32, bs44, bs58, bstr_app, bstr_size, List.length_append, List.length_singleton, List.length_nil]) (by simp only [go_sem, Int.reduceLT, Int.reduceLE, Int.reduceEq, Int.reduceToNat, hL, hc, hn0, hat.get, hat.live, pf, c0, c1, c2, bs32, bs44, bs58, bstr_app, bstr_size, List.length_append, List.length_singleton, List.length_nil]) ?_) | (refine mcall_ret (l03Signed (by omega) (by omega)) (by simp only [go_sem, Int.reduceLT, Int.reduceLE, Int.reduceEq, Int.reduceToNat, hL, hc, hn0, hat.get, hat.live, pf, c0, c1, c2, bs32, bs44, bs58, bstr_app, bstr_size, List.length_append, List.length_singleton, List.length_nil]) (by simp only [go_sem, Int.reduceLT, Int.reduceLE, Int.reduceEq, Int.reduceToNat, hL, hc, hn0, hat.get, hat.live, pf, c0, c1, c2, bs32, bs44, bs58, bstr_app, bstr_size, List.length_append, List.length_singleton, List.length_nil]) ?_)) | ((with_reducible refine isWKr (id := 7) ?_); refine WK_drawAt 7 [[],[],[],[1,2],[1,2,3],[1,2,3,4],[1,2,3,4,5],[1,2,3,4,5,6],[1,2,3,4,5,6,7],[],[],[9,10],[9,10,11],[9,10,11,12],[9,10,11,12,13],[1,2,3,4,5,6,7,9,10,11,12,13,14],[1,2,3,4,5,6,7,8,9,10,11,12,13,14,15],[1,2,3,4,5,6,7,8,9,10,11,12,13,14,15,16],[],[],[18,19],[18,19,20],[18,19,20,21],[18,19,20,21,22],[1,2,3,4,5,6,7,9,10,11,12,13,14,15,18,19,20,21,22,23],[1,2,3,4,5,6,7,8,9,10,11,12,13,14,15,16,17,18,19,20,21,22,23,24],[0,1,2,3,4,5,6,7,8,9,10,11,12,13,14,15,16,17,18,19,20,21,22,23,24,25],[0,1,2,3,4,5,6,7,8,9,10,11,12,13,14,15,16,17,18,19,20,21,22,23,24,25,26]] (by kernel_rfl) ?_) | ((with_reducible refine And.intro ?_ ?_); first | (with_reducible rfl) | assumption | (simp only [go_sem]; done)))
      refine EK_again (n + 1) (Weak.slots ?_) (by omega) (by omega)
      rw [e3]
      simp [go_sem]
  · have : n = l.length := by omega
    subst this
    rw [List.take_length]
    repeat (first | (simp only [go_sem, Int.reduceLT, Int.reduceLE, Int.reduceEq, Int.reduceToNat, hL, Int.not_lt.2 hc]) | ((with_reducible refine And.intro ?_ ?_); omega) | ((with_reducible refine isWKr (id := 7) ?_); refine WK_drawAt 7 [[],[],[],[1,2],[1,2,3],[1,2,3,4],[1,2,3,4,5],[1,2,3,4,5,6],[1,2,3,4,5,6,7],[],[],[9,10],[9,10,11],[9,10,11,12],[9,10,11,12,13],[1,2,3,4,5,6,7,9,10,11,12,13,14],[1,2,3,4,5,6,7,8,9,10,11,12,13,14,15],[1,2,3,4,5,6,7,8,9,10,11,12,13,14,15,16],[],[],[18,19],[18,19,20],[18,19,20,21],[18,19,20,21,22],[1,2,3,4,5,6,7,9,10,11,12,13,14,15,18,19,20,21,22,23],[1,2,3,4,5,6,7,8,9,10,11,12,13,14,15,16,17,18,19,20,21,22,23,24],[0,1,2,3,4,5,6,7,8,9,10,11,12,13,14,15,16,17,18,19,20,21,22,23,24,25],[0,1,2,3,4,5,6,7,8,9,10,11,12,13,14,15,16,17,18,19,20,21,22,23,24,25,26]] (by kernel_rfl) ?_) | ((with_reducible refine And.intro ?_ ?_); first | (with_reducible rfl) | assumption | (simp only [go_sem]; done)))
    refine ret_same hq _ (.inl rfl) ?_
    simp [go_sem]
theorem specTrackText {H : List Blk} {v : V} {l : List (Nat → Int)} (h : Rd H v encK l) (hK : ∀ a ∈ l, KyW a) (hl : l.length ≤ 1000000) :
    Cal Tryd.prog 12 [v] H fun u H' => u = .v (.string (bstr (ttT l))) ∧ H' = H := by
  have hsol := h.solid
  cases e : tkOk l
  · have e2 : ttT l = [] := if_neg (by rw [e]; decide)
    refine cal_fn 7 mixed Tryd.func12 Tryd.ntmps12 Tryd.results12 rfl rfl rfl fun hw cx hx hq => ?_
    repeat (first | (simp only [go_sem, Int.reduceLT, Int.reduceLE, Int.reduceEq, Int.reduceToNat, hsol, e, bs0]) | ((with_reducible refine And.intro ?_ ?_); omega) | ((with_reducible refine isSK ?_); first | (refine call_ret (l03Ok h hK hl) (by simp only [go_sem, Int.reduceLT, Int.reduceLE, Int.reduceEq, Int.reduceToNat, hsol, e, bs0]) ?_)) | ((with_reducible refine isMC ?_); first | (refine mcall_ret (l03Ok h hK hl) (by simp only [go_sem, Int.reduceLT, Int.reduceLE, Int.reduceEq, Int.reduceToNat, hsol, e, bs0]) (by simp only [go_sem, Int.reduceLT, Int.reduceLE, Int.reduceEq, Int.reduceToNat, hsol, e, bs0]) ?_)) | ((with_reducible refine And.intro ?_ ?_); first | (with_reducible rfl) | assumption | (simp only [go_sem]; done)))
    refine ret_same hq _ (.inl rfl) ?_
    simp [go_sem, e2]
  · have e2 : ttT l = trkT l := if_pos e
    refine cal_fn 7 mixed Tryd.func12 Tryd.ntmps12 Tryd.results12 rfl rfl rfl fun hw cx hx hq => ?_
    repeat (first | (simp only [go_sem, Int.reduceLT, Int.reduceLE, Int.reduceEq, Int.reduceToNat, hsol, e, bs0]) | ((with_reducible refine And.intro ?_ ?_); omega) | ((with_reducible refine isSK ?_); first | (refine call_ret (l03Ok h hK hl) (by simp only [go_sem, Int.reduceLT, Int.reduceLE, Int.reduceEq, Int.reduceToNat, hsol, e, bs0]) ?_) | (refine call_ret (l03Text h e) (by simp only [go_sem, Int.reduceLT, Int.reduceLE, Int.reduceEq, Int.reduceToNat, hsol, e, bs0]) ?_)) | ((with_reducible refine isMC ?_); first | (refine mcall_ret (l03Ok h hK hl) (by simp only [go_sem, Int.reduceLT, Int.reduceLE, Int.reduceEq, Int.reduceToNat, hsol, e, bs0]) (by simp only [go_sem, Int.reduceLT, Int.reduceLE, Int.reduceEq, Int.reduceToNat, hsol, e, bs0]) ?_) | (refine mcall_ret (l03Text h e) (by simp only [go_sem, Int.reduceLT, Int.reduceLE, Int.reduceEq, Int.reduceToNat, hsol, e, bs0]) (by simp only [go_sem, Int.reduceLT, Int.reduceLE, Int.reduceEq, Int.reduceToNat, hsol, e, bs0]) ?_)) | ((with_reducible refine And.intro ?_ ?_); first | (with_reducible rfl) | assumption | (simp only [go_sem]; done)))
    refine ret_same hq _ (.inl rfl) ?_
    simp [go_sem, e2]
end Go.Proofs.YtpjimhkblldhaaaDoor

