/- Contracts of functions of the translated program, by the walk. -/
import Derived.Test.YtpjimhkblldhaaaDoorDt1
set_option linter.unusedVariables false
set_option linter.unusedSimpArgs false
set_option maxRecDepth 8000
set_option maxHeartbeats 4000000
namespace Go.Proofs.YtpjimhkblldhaaaDoor
open Go Go.Sx
/-- Texts joined. -/
def jnT (s : List Int) : List (List Int) → List Int
  | [] => []
  | x :: r => x ++ r.flatMap (s ++ ·)
theorem jnT_snoc {s : List Int} {xs : List (List Int)} (x : List Int) (h : xs ≠ []) : jnT s (xs ++ [x]) = jnT s xs ++ s ++ x := by
  cases xs with
  | nil => exact absurd rfl h
  | cons a r => simp [jnT, List.append_assoc]
theorem jnT_len {s : List Int} {k : Nat} : ∀ {xs : List (List Int)}, (∀ x ∈ xs, x.length + s.length ≤ k) → (jnT s xs).length ≤ k * xs.length
  | [], _ => by simp [jnT]
  | x :: r, h => by
    have h0 := h x (List.mem_cons_self ..)
    have : ∀ (r : List (List Int)), (∀ x ∈ r, x.length + s.length ≤ k) → (r.flatMap (s ++ ·)).length ≤ k * r.length := by
      intro r
      induction r with
      | nil => simp
      | cons a r ih =>
        intro h
        have h1 := h a (List.mem_cons_self ..)
        have h2 := ih fun x hx => h x (List.mem_cons_of_mem _ hx)
        simp only [List.flatMap_cons, List.length_append, List.length_cons, Nat.mul_succ]
        omega
    have h1 := this r fun x hx => h x (List.mem_cons_of_mem _ hx)
    simp only [jnT, List.length_append, List.length_cons, Nat.mul_succ]
    omega
def u8L (l : List Int) : List UInt8 := l.map fun n => UInt8.ofNat n.toNat
theorem bstr_u8 (l : List Int) : (bstr l).data.toList = u8L l := by simp [bstr, u8L]
theorem join_u8 (s : List Int) (xs : List (List Int)) : Lib.join (xs.map u8L) (u8L s) = u8L (jnT s xs) := by
  cases xs with
  | nil => rfl
  | cons x r =>
    rw [List.map_cons, Lib.join_cons]
    unfold Lib.joinTail jnT
    simp [u8L, List.map_flatMap, List.flatMap_def, Function.comp_def]
theorem join_bstr (s : List Int) (xs : List (List Int)) : Lib.join ((xs.map bstr).map (·.data.toList)) (bstr s).data.toList = u8L (jnT s xs) := by
  rw [bstr_u8, ← join_u8, List.map_map]
  congr 1
theorem joinT_eq (xs : List (List Int)) (s : List Int) : joinT xs s = bstr (jnT s xs) := by
  unfold joinT
  rw [join_bstr]
  rfl
theorem join_len (s : List Int) (xs : List (List Int)) : (Lib.join ((xs.map bstr).map (·.data.toList)) (bstr s).data.toList).length = (jnT s xs).length := by
  rw [join_bstr]; simp [u8L]
/-- The text of an order. -/
def ordL (l : List Int) : List (List Int) := l.map fun k => decT k.toNat
def ordT (l : List Int) : List Int := jnT [32] (ordL l)
theorem ordL_len (l : List Int) : (ordL l).length = l.length := by simp [ordL]
theorem ordL_succ {l : List Int} {n : Nat} (h : n < l.length) : ordL (l.take (n + 1)) = ordL (l.take n) ++ [decT (l[n]).toNat] := by
  unfold ordL; rw [List.take_succ_eq_append_getElem h, List.map_append]; rfl
/-- All numbers are below forty. -/
def okO (l : List Int) : Prop := ∀ k ∈ l, 0 ≤ k ∧ k ≤ 39
instance (l : List Int) : Decidable (okO l) := by unfold okO; infer_instance
theorem okO_take {l : List Int} (h : okO l) (n : Nat) : okO (l.take n) := fun k hk => h k (List.mem_of_mem_take hk)
theorem ordT_len {l : List Int} (h : okO l) : (ordT l).length ≤ 3 * l.length := by
  have h1 := jnT_len (s := [32]) (k := 3) (xs := ordL l) (by
    intro x hx
    unfold ordL at hx
    obtain ⟨k, hk, rfl⟩ := List.mem_map.1 hx
    have := h k hk
    have := decT_len (i := k.toNat) (by omega)
    simp; omega)
  rw [ordL_len] at h1
  exact h1
theorem ordT_1 {l : List Int} (h : 0 < l.length) : ordT (l.take 1) = decT (l[0]).toNat := by
  have := ordL_succ (l := l) (n := 0) h
  unfold ordT
  rw [Nat.zero_add] at this
  rw [this]
  simp [ordL, jnT]
theorem ordT_succ {l : List Int} {n : Nat} (h : n < l.length) (h0 : n ≠ 0) : ordT (l.take (n + 1)) = ordT (l.take n) ++ [32] ++ decT (l[n]).toNat := by
  unfold ordT
  rw [ordL_succ h, jnT_snoc]
  intro e
  have := congrArg List.length e
  rw [ordL_len, List.length_take, List.length_nil] at this
  omega
theorem bs32 : (ByteArray.mk #[32]) = bstr [32] := rfl
theorem bs0 : (ByteArray.mk #[]) = bstr [] := rfl
theorem ordT_nil : ordT [] = [] := rfl
theorem ordL_nil : ordL [] = [] := rfl
theorem l04Text {H : List Blk} {v : V} {l : List Int} (h : Rd H v i64C l) (ho : okO l) (hl : l.length ≤ 40) :
    Cal Tryd.prog 27 [v] H fun u H' => u = .v (.string (bstr (ordT l))) ∧ H' = H := by
  have hsol := h.solid
  have hL := h.lenV (P := Tryd.prog) slTy22
  refine cal_fn 22 mixed Tryd.func27 Tryd.ntmps27 Tryd.results27 rfl rfl rfl fun hw cx hx hq => ?_
  repeat (first | (simp only [go_sem, Int.reduceLT, Int.reduceLE, Int.reduceEq, Int.reduceToNat, hsol, bs0]) | ((with_reducible refine And.intro ?_ ?_); omega) | ((with_reducible refine And.intro ?_ ?_); first | (with_reducible rfl) | assumption | (simp only [go_sem]; done)))
  refine WK_for (fun n : Nat => ⟨[v, .any, .any, .v (.string (bstr (ordT (l.take n)))), .v (.int .i64 n)] ++ junk 18, H⟩) (fun n => n ≤ l.length) (fun n => l.length - n) 0 (Weak.slots ?_) (Nat.zero_le _) fun n hn => ?_
  · simp [go_sem, ordT_nil]
  rcases Int.lt_or_le (n : Int) l.length with hc | hc
  · have hj : n < l.length := by omega
    obtain ⟨i, off, c, b, rfl, hat⟩ := h.row (by omega)
    have hll := hat.len (by rw [flat_i64.flen]; omega)
    rw [flat_i64.flen] at hll
    have hz := hat.i64 hj
    have hk := ho _ (List.getElem_mem hj)
    obtain ⟨k, hk2⟩ := Int.eq_ofNat_of_zero_le hk.1
    have hk3 : k < 100 := by omega
    have hD := decT_len hk3
    by_cases h0 : n = 0
    · subst h0
      have e3 := ordT_1 hj
      rw [hk2, Int.toNat_natCast] at e3
      rw [hk2, Nat.add_zero] at hz
      have hn0 : ((0 : Int) < ((0 : Nat) : Int)) = False := eq_false (by omega)
      rw [List.take_zero, ordT_nil]
      repeat (first | (simp only [go_sem, Int.reduceLT, Int.reduceLE, Int.reduceEq, Int.reduceToNat, hL, hc, hn0, hat.get, hat.live, hz, bstr_app, bstr_size, List.nil_append, List.length_nil]) | ((with_reducible refine And.intro ?_ ?_); omega) | ((with_reducible refine isSK ?_); first | (refine call_ret (decimalS hk3) (by simp only [go_sem, Int.reduceLT, Int.reduceLE, Int.reduceEq, Int.reduceToNat, hL, hc, hn0, hat.get, hat.live, hz, bstr_app, bstr_size, List.nil_append, List.length_nil]) ?_)) | ((with_reducible refine isMC ?_); first | (refine mcall_ret (decimalS hk3) (by simp only [go_sem, Int.reduceLT, Int.reduceLE, Int.reduceEq, Int.reduceToNat, hL, hc, hn0, hat.get, hat.live, hz, bstr_app, bstr_size, List.nil_append, List.length_nil]) (by simp only [go_sem, Int.reduceLT, Int.reduceLE, Int.reduceEq, Int.reduceToNat, hL, hc, hn0, hat.get, hat.live, hz, bstr_app, bstr_size, List.nil_append, List.length_nil]) ?_)) | ((with_reducible refine And.intro ?_ ?_); first | (with_reducible rfl) | assumption | (simp only [go_sem]; done)))
      refine EK_again (0 + 1) (Weak.slots ?_) (by omega) (by omega)
      rw [e3]
      simp [go_sem]
    · have e3 := ordT_succ hj h0
      rw [hk2, Int.toNat_natCast] at e3
      rw [hk2] at hz
      have hT := ordT_len (okO_take ho n)
      rw [List.length_take] at hT
      have hT2 : (ordT (l.take n)).length ≤ 120 := by omega
      have hn0 : ((0 : Int) < n) = True := eq_true (by omega)
      repeat (first | (simp only [go_sem, Int.reduceLT, Int.reduceLE, Int.reduceEq, Int.reduceToNat, hL, hc, hn0, hat.get, hat.live, hz, bs32, bstr_app, bstr_size, List.length_append, List.length_singleton]) | ((with_reducible refine And.intro ?_ ?_); omega) | ((with_reducible refine isSK ?_); first | (refine call_ret (decimalS hk3) (by simp only [go_sem, Int.reduceLT, Int.reduceLE, Int.reduceEq, Int.reduceToNat, hL, hc, hn0, hat.get, hat.live, hz, bs32, bstr_app, bstr_size, List.length_append, List.length_singleton]) ?_)) | ((with_reducible refine isMC ?_); first | (refine mcall_ret (decimalS hk3) (by simp only [go_sem, Int.reduceLT, Int.reduceLE, Int.reduceEq, Int.reduceToNat, hL, hc, hn0, hat.get, hat.live, hz, bs32, bstr_app, bstr_size, List.length_append, List.length_singleton]) (by simp only [go_sem, Int.reduceLT, Int.reduceLE, Int.reduceEq, Int.reduceToNat, hL, hc, hn0, hat.get, hat.live, hz, bs32, bstr_app, bstr_size, List.length_append, List.length_singleton]) ?_)) | ((with_reducible refine And.intro ?_ ?_); first | (with_reducible rfl) | assumption | (simp only [go_sem]; done)))
      refine EK_again (n + 1) (Weak.slots ?_) (by omega) (by omega)
      rw [e3]
      simp [go_sem]
  · have : n = l.length := by omega
    subst this
    rw [List.take_length]
    repeat (first | (simp only [go_sem, Int.reduceLT, Int.reduceLE, Int.reduceEq, Int.reduceToNat, hL, Int.not_lt.2 hc]) | ((with_reducible refine And.intro ?_ ?_); omega) | ((with_reducible refine And.intro ?_ ?_); first | (with_reducible rfl) | assumption | (simp only [go_sem]; done)))
    refine ret_same hq _ (.inl rfl) ?_
    simp [go_sem]
/-- What OrderText answers. -/
def otT (l : List Int) : List Int := if okO l ∧ l.length ≤ 40 then ordT l else []
end Go.Proofs.YtpjimhkblldhaaaDoor

