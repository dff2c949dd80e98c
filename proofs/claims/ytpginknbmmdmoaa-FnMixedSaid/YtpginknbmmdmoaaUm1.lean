/- Contracts of functions of the translated program, by the walk. -/
import Derived.Test.YtpginknbmmdmoaaMx1
import Derived.Test.YtpginknbmmdmoaaD1
set_option linter.unusedVariables false
set_option linter.unusedSimpArgs false
set_option maxRecDepth 8000
set_option maxHeartbeats 4000000
namespace Go.Proofs.Ytpginknbmmdmoaa
open Go Go.Sx
open Go.RowKit
def bitF (m i : Nat) : Int := ((m / 2 ^ i % 2 : Nat) : Int)
def sdT (m n t : Nat) : List Int := (List.range t).map fun k => bitF m (n - 1 - k)
def sdL (m n : Nat) : List Int := sdT m n n
theorem sdT_len (m n t : Nat) : (sdT m n t).length = t := by simp [sdT]
@[simp] theorem sdL_len (m n : Nat) : (sdL m n).length = n := sdT_len m n n
theorem sdT_succ (m n t : Nat) : sdT m n (t + 1) = sdT m n t ++ [bitF m (n - 1 - t)] := by simp [sdT, List.range_succ]
theorem bitF_01 (m i : Nat) : bitF m i = 0 ∨ bitF m i = 1 := by unfold bitF; omega
theorem sdL_01 (m n : Nat) : ∀ x ∈ sdL m n, x = 0 ∨ x = 1 := fun x hx => by
  unfold sdL sdT at hx
  obtain ⟨k, _, rfl⟩ := List.mem_map.1 hx
  exact bitF_01 _ _
theorem and1_i64 (n : Nat) (h : n < 9223372036854775808) : bits .and .i64 (n : Int) 1 = ((n % 2 : Nat) : Int) := by
  show IntKind.i64.wrap ((BitVec.ofInt 64 (n : Int) &&& BitVec.ofInt 64 1).toNat : Int) = _
  have e1 : (BitVec.ofInt 64 (n : Int) &&& BitVec.ofInt 64 1).toNat = n % 2 := by
    rw [BitVec.toNat_and]
    have : (BitVec.ofInt 64 (1 : Int)).toNat = 1 := by decide
    rw [this, Nat.and_one_is_mod, BitVec.toNat_ofInt]
    omega
  rw [e1]
  rcases Nat.mod_two_eq_zero_or_one n with e | e <;> rw [e] <;> rfl
theorem shr_nat (m i : Nat) (h : i ≤ 64) : (m : Int).fdiv (2 ^ min i 64) = ((m / 2 ^ i : Nat) : Int) := by
  rw [Nat.min_eq_left h, Int.fdiv_eq_ediv_of_nonneg _ (by exact Int.le_of_lt (Int.pow_pos (by omega)))]
  rw [Int.natCast_ediv, Int.natCast_pow]; rfl
theorem bit_eq (m i : Nat) (h : i ≤ 64) (hm : m < 9223372036854775808) : bits .and .i64 ((m : Int).fdiv (2 ^ min i 64)) 1 = bitF m i := by
  rw [shr_nat m i h, and1_i64 _ (Nat.lt_of_le_of_lt (Nat.div_le_self _ _) hm)]; rfl
theorem shl_nat (i : Nat) (h : i ≤ 8) : (1 * 2 ^ min i 64 : Int) = ((2 ^ i : Nat) : Int) := by
  rw [Nat.min_eq_left (by omega), Int.one_mul, Int.natCast_pow]; rfl
theorem pow_le_256 {i : Nat} (h : i ≤ 8) : 2 ^ i ≤ 256 := Nat.pow_le_pow_right (n := 2) (by omega) h
/-- What the jumps of both sides come to. -/
def cst (l : List (Nat → Int)) (m : Nat) : Int := allJ (sdA l (sdL m l.length) 0) + allJ (sdA l (sdL m l.length) 1)
def mB (l : List (Nat → Int)) : Nat → Nat
  | 0 => 0
  | k + 1 => if cst l (k + 1) < cst l (mB l k) then k + 1 else mB l k
theorem mB_le (l : List (Nat → Int)) : ∀ k, mB l k ≤ k
  | 0 => Nat.le_refl _
  | k + 1 => by unfold mB; have := mB_le l k; split <;> omega
theorem sdN_12 {l : List (Nat → Int)} (h : ∀ f ∈ l, F12 f) (s : List Int) (x : Int) : ∀ n, ∀ f ∈ sdN l s x n, F12 f
  | 0, f, hf => by simp [sdN] at hf
  | n + 1, f, hf => by
    unfold sdN at hf
    split at hf
    · rcases List.mem_append.1 hf with hf | hf
      · exact sdN_12 h s x n f hf
      · simp at hf; subst hf; exact pg_12 h n
    · exact sdN_12 h s x n f hf
theorem sdA_12 {l : List (Nat → Int)} (h : ∀ f ∈ l, F12 f) (s : List Int) (x : Int) : ∀ f ∈ sdA l s x, F12 f := sdN_12 h s x _
theorem sdA_len (l : List (Nat → Int)) (s : List Int) (x : Int) : (sdA l s x).length ≤ l.length := sdN_len l s x _
theorem sdN_all {l : List (Nat → Int)} {s : List Int} {x : Int} : ∀ n, n ≤ l.length → (∀ k, k < n → s[k]?.getD 0 = x) → sdN l s x n = l.take n
  | 0, _, _ => rfl
  | n + 1, hn, h => by
    rw [sdN_at (h n (by omega)), sdN_all n (by omega) (fun k hk => h k (by omega)), pg_at (show n < l.length by omega), List.take_succ_eq_append_getElem (by omega)]
theorem sdN_none {l : List (Nat → Int)} {s : List Int} {x : Int} : ∀ n, (∀ k, k < n → s[k]?.getD 0 ≠ x) → sdN l s x n = []
  | 0, _ => rfl
  | n + 1, h => by rw [sdN_no (h n (by omega)), sdN_none n (fun k hk => h k (by omega))]
theorem sd0 (n k : Nat) (h : k < n) : (sdL 0 n)[k]?.getD 0 = 0 := by
  rw [List.getElem?_eq_getElem (by rw [sdL_len]; exact h)]
  simp [sdL, sdT, bitF]
theorem cst0 (l : List (Nat → Int)) : cst l 0 = allJ l := by
  unfold cst sdA
  rw [sdN_all l.length (Nat.le_refl _) (fun k hk => sd0 _ k hk), sdN_none l.length (fun k hk => by rw [sd0 _ k hk]; decide), List.take_length]
  have : allJ [] = 0 := rfl
  rw [this]; omega
theorem cst_range (l : List (Nat → Int)) (h : l.length ≤ 8) (m : Nat) : 0 ≤ cst l m ∧ cst l m ≤ 2304 := by
  have h1 := allJ_range (sdA l (sdL m l.length) 0)
  have h2 := allJ_range (sdA l (sdL m l.length) 1)
  have h3 := sdA_len l (sdL m l.length) 0
  have h4 := sdA_len l (sdL m l.length) 1
  unfold cst; omega
theorem rdW {H L : List Blk} {c : Cap} {r : List (Nat → Int)} (k : Nat) (h : L[k]? = some (rwB r)) : Rd (H ++ L) (hdW (H.length + k) c r) (rowL .u16 12) r := by
  by_cases e : r = []
  · subst e; exact Rd.nil _ _
  · rw [hdW_at e]
    rw [rwB_at e] at h
    exact Rd.own k h rfl rfl
theorem l04Sides {H : List Blk} {m n : Nat} (hm : m < 256) (hn : n ≤ 8) : Cal Try.prog 127 [.v (.int .i64 m), .v (.int .i64 n)] H fun u H' => u = .s H.length 0 n (.u 0) ∧ H' = H ++ [⟨(sdL m n).flatMap i64C, 2, .own 1⟩] := by
  refine cal_fn 21 mixed Try.func127 Try.ntmps127 Try.results127 rfl rfl rfl fun hw cx hx hq => ?_
  repeat (first | (simp only [go_sem, Int.reduceLT, Int.reduceLE, Int.reduceEq, Int.reduceToNat]) | ((with_reducible refine And.intro ?_ ?_); omega) | ((with_reducible refine And.intro ?_ ?_); first | (with_reducible rfl) | assumption | (simp only [go_sem]; done)))
  refine WK_for (fun t : Nat => ⟨[.v (.int .i64 m), .v (.int .i64 n), .any, .any, .any, .s H.length 0 t (.u 0), .v (.int .i64 ((n : Int) - 1 - t))] ++ junk 16, H ++ [⟨(sdT m n t).flatMap i64C, 2, .own 1⟩]⟩) (fun t => t ≤ n) (fun t => n - t) 0 (Weak.slots ?_) ?_ fun t ht => ?_
  · simp [go_sem, sdT]
  · simp
  have hlen := sdT_len m n t
  have hl2 : ((sdT m n t).flatMap i64C).length = t := by rw [flat_i64.flen, Nat.mul_one, hlen]
  have hn1 : norefH H.length H := norefH_wf hw (Nat.le_refl _)
  have hn2 : norefs H.length ((sdT m n t).flatMap i64C) = true := flat_i64.norefs _ _
  have hd1 : (H.length + 1 = H.length) = False := eq_false (by omega)
  rcases Int.lt_or_le (t : Int) n with hc | hc
  · obtain ⟨i, hi⟩ : ∃ i : Nat, (n : Int) - 1 - t = i := ⟨n - 1 - t, by omega⟩
    have hi2 : n - 1 - t = i := by omega
    have hb := bit_eq m i (by omega) (by omega)
    have hb01 := bitF_01 m i
    have hi0 : (0 : Int) ≤ (i : Int) := by omega
    have hwu : IntKind.u64.wrap (i : Int) = i := wrap_u64 (by omega) (by omega)
    have e3 := sdT_succ m n t
    rw [hi2] at e3
    rw [hi]
    repeat (first | (simp only [go_sem, Int.reduceLT, Int.reduceLE, Int.reduceEq, Int.reduceToNat, hi0, hwu, hb, hl2, hn1, hn2, hd1, hx]) | ((with_reducible refine And.intro ?_ ?_); omega) | ((with_reducible refine And.intro ?_ ?_); first | (with_reducible rfl) | assumption | (simp only [go_sem]; done)))
    refine EK_again (t + 1) ?_ (by omega) (by omega)
    have e4 : (n : Int) - 1 - (t + 1 : Nat) = i - 1 := by omega
    rw [e3, e4, flat_snoc]
    exact Weak.keepN rfl (by simp [go_sem] <;> omega) (by simp [hx]) (by simp [go_sem, flat_i64.lts, i64C] <;> omega) (hw.app (by simp [go_sem, flat_i64.lts, i64C] <;> omega))
  · have : t = n := by omega
    subst this
    have e5 : ((0 : Int) ≤ (t : Int) - 1 - t) = False := eq_false (by omega)
    repeat (first | (simp only [go_sem, Int.reduceLT, Int.reduceLE, Int.reduceEq, Int.reduceToNat, e5]) | ((with_reducible refine And.intro ?_ ?_); omega) | ((with_reducible refine And.intro ?_ ?_); first | (with_reducible rfl) | assumption | (simp only [go_sem]; done)))
    refine ret_at hq _ (.inl rfl) (by simp) ?_
    simp [go_sem, sdL]
def unmC (l : List (Nat → Int)) : Int := if okB l = true then (if l.length ≤ 8 then 0 else 3) else 1
theorem unm_ok {l : List (Nat → Int)} (h : unmC l = 0) : okB l = true ∧ l.length ≤ 8 := by
  unfold unmC at h
  split at h
  · rename_i e; split at h
    · exact ⟨e, ‹_›⟩
    · cases h
  · cases h
/-- The mask that is best. -/
def mU (l : List (Nat → Int)) : Nat := mB l (2 ^ (l.length - 1) - 1)
theorem implUnmix_nil {H : List Blk} {v : V} {l : List (Nat → Int)} (h : Rd H v (rowL .u16 12) l) (hc : unmC l = 0) (hne : l = []) :
    Cal Try.prog 64 [v] H fun u H' => u = .t [.v (.slice none 0 0), .v (.int .i64 0), .v (.int .i64 0)] ∧ H' = H := by
  have hsol := h.solid
  have hL := h.lenV (P := Try.prog) slTy53
  obtain ⟨e1, e2⟩ := unm_ok hc
  have e2' : ((8 : Int) < (l.length : Int)) = False := eq_false (by omega)
  have e3 : ((l.length : Int) = 0) = True := eq_true (by rw [hne]; rfl)
  refine cal_fn 69 mixed Try.func64 Try.ntmps64 Try.results64 rfl rfl rfl fun hw cx hx hq => ?_
  repeat (first | (simp only [go_sem, Int.reduceLT, Int.reduceLE, Int.reduceEq, Int.reduceToNat, hsol, hL, e1, e2', e3]) | ((with_reducible refine And.intro ?_ ?_); omega) | ((with_reducible refine isSK ?_); first | (refine call_ret (validBook h (by omega)) (by simp only [go_sem, Int.reduceLT, Int.reduceLE, Int.reduceEq, Int.reduceToNat, hsol, hL, e1, e2', e3]) ?_)) | ((with_reducible refine isMC ?_); first | (refine mcall_ret (validBook h (by omega)) (by simp only [go_sem, Int.reduceLT, Int.reduceLE, Int.reduceEq, Int.reduceToNat, hsol, hL, e1, e2', e3]) (by simp only [go_sem, Int.reduceLT, Int.reduceLE, Int.reduceEq, Int.reduceToNat, hsol, hL, e1, e2', e3]) ?_)) | ((with_reducible refine And.intro ?_ ?_); first | (with_reducible rfl) | assumption | (simp only [go_sem]; done)))
  refine ret_same hq _ (.inl rfl) ?_
  simp [go_sem]
theorem specUnmix_nil {H : List Blk} {v : V} {l : List (Nat → Int)} (h : Rd H v (rowL .u16 12) l) (hc : unmC l = 0) (hne : l = []) :
    Cal Try.prog 65 [v] H fun u H' => u = .t [.s H.length 0 0 (.u 0), .v (.int .i64 0), .v (.int .i64 0)] ∧ H' = H ++ [⟨[], 2, .own 1⟩] := by
  have hsol := h.solid
  have hL := h.lenV (P := Try.prog) slTy53
  obtain ⟨e1, e2⟩ := unm_ok hc
  have h12 : ∀ f ∈ l, F12 f := by rw [hne]; simp
  have hj : allJ l = 0 := by rw [hne]; rfl
  have e2' : ((8 : Int) < (l.length : Int)) = False := eq_false (by omega)
  have e0 : (l.length : Int) = 0 := by rw [hne]; rfl
  refine cal_fn 58 mixed Try.func65 Try.ntmps65 Try.results65 rfl rfl rfl fun hw cx hx hq => ?_
  repeat (first | (simp only [go_sem, Int.reduceLT, Int.reduceLE, Int.reduceEq, Int.reduceToNat, hsol, hL, e1, e2', e0, hj]) | ((with_reducible refine And.intro ?_ ?_); omega) | ((with_reducible refine isSK ?_); first | (refine call_ret (l02Ok h (by omega)) (by simp only [go_sem, Int.reduceLT, Int.reduceLE, Int.reduceEq, Int.reduceToNat, hsol, hL, e1, e2', e0, hj]) ?_) | (refine call_ret (l04Sides (m := 0) (n := 0) (by omega) (by omega)) (by simp only [go_sem, Int.reduceLT, Int.reduceLE, Int.reduceEq, Int.reduceToNat, hsol, hL, e1, e2', e0, hj]) ?_) | (refine call_ret (l04All h.app h12 (by omega)) (by simp only [go_sem, Int.reduceLT, Int.reduceLE, Int.reduceEq, Int.reduceToNat, hsol, hL, e1, e2', e0, hj]) ?_)) | ((with_reducible refine isMC ?_); first | (refine mcall_ret (l02Ok h (by omega)) (by simp only [go_sem, Int.reduceLT, Int.reduceLE, Int.reduceEq, Int.reduceToNat, hsol, hL, e1, e2', e0, hj]) (by simp only [go_sem, Int.reduceLT, Int.reduceLE, Int.reduceEq, Int.reduceToNat, hsol, hL, e1, e2', e0, hj]) ?_) | (refine mcall_ret (l04Sides (m := 0) (n := 0) (by omega) (by omega)) (by simp only [go_sem, Int.reduceLT, Int.reduceLE, Int.reduceEq, Int.reduceToNat, hsol, hL, e1, e2', e0, hj]) (by simp only [go_sem, Int.reduceLT, Int.reduceLE, Int.reduceEq, Int.reduceToNat, hsol, hL, e1, e2', e0, hj]) ?_) | (refine mcall_ret (l04All h.app h12 (by omega)) (by simp only [go_sem, Int.reduceLT, Int.reduceLE, Int.reduceEq, Int.reduceToNat, hsol, hL, e1, e2', e0, hj]) (by simp only [go_sem, Int.reduceLT, Int.reduceLE, Int.reduceEq, Int.reduceToNat, hsol, hL, e1, e2', e0, hj]) ?_)) | ((with_reducible refine And.intro ?_ ?_); first | (with_reducible rfl) | assumption | (simp only [go_sem]; done)))
  refine WK_for (fun n : Nat => ⟨[v, .any, .any, .any, .any, .v (.int .i64 0), .s H.length 0 0 (.u 0), .v (.int .i64 0), .v (.int .i64 1)] ++ junk 50, H ++ [⟨[], 2, .own 1⟩]⟩) (fun n => n = 0) (fun n => n) 0 (Weak.slots ?_) ?_ fun n hn => ?_
  · simp [go_sem, sdL, sdT]
  · rfl
  repeat (first | (simp only [go_sem, Int.reduceLT, Int.reduceLE, Int.reduceEq, Int.reduceToNat]) | ((with_reducible refine And.intro ?_ ?_); omega) | ((with_reducible refine And.intro ?_ ?_); first | (with_reducible rfl) | assumption | (simp only [go_sem]; done)))
  refine ret_at hq _ (.inl rfl) (by simp) ?_
  simp [go_sem]
def hdU (j z n : Nat) : V := if n = 0 then .v (.slice none 0 0) else .s j 0 z (.u 0)
def rwU (l : List (Nat → Int)) (n : Nat) : Blk := if n = 0 then deadB else ⟨(sdL (mB l (n - 1)) l.length).flatMap i64C, 2, .own 1⟩
theorem hdU_0 (j z : Nat) : hdU j z 0 = .v (.slice none 0 0) := rfl
theorem hdU_at {j z n : Nat} (h : n ≠ 0) : hdU j z n = .s j 0 z (.u 0) := if_neg h
theorem rwU_0 (l : List (Nat → Int)) : rwU l 0 = deadB := rfl
theorem rwU_at {l : List (Nat → Int)} {n : Nat} (h : n ≠ 0) : rwU l n = ⟨(sdL (mB l (n - 1)) l.length).flatMap i64C, 2, .own 1⟩ := if_neg h
theorem specUnmix_ok {H : List Blk} {v : V} {l : List (Nat → Int)} (h : Rd H v (rowL .u16 12) l) (hR : ∀ f ∈ l, R16 f) (hc : unmC l = 0) (hne : l ≠ []) :
    Cal Try.prog 65 [v] H fun u H' => u = .t [.s H.length 0 l.length (.u 0), .v (.int .i64 (cst l (mU l))), .v (.int .i64 0)] ∧ H' = H ++ [⟨(sdL (mU l) l.length).flatMap i64C, 2, .own 1⟩] := by
  have hsol := h.solid
  have hL := h.lenV (P := Try.prog) slTy53
  obtain ⟨e1, e2⟩ := unm_ok hc
  have h12 := okB_12 e1 hR
  have hpos : 0 < l.length := List.length_pos_iff.2 hne
  obtain ⟨k, hk⟩ : ∃ k, l.length = k + 1 := ⟨l.length - 1, by omega⟩
  have hkk : (l.length : Int) - 1 = (k : Int) := by omega
  have hk1 : l.length - 1 = k := by omega
  have e2' : ((8 : Int) < (l.length : Int)) = False := eq_false (by omega)
  have e3 : ((l.length : Int) = 0) = False := eq_false (by omega)
  have hp256 := pow_le_256 (i := k) (by omega)
  have hp1 : 1 ≤ 2 ^ k := Nat.one_le_two_pow
  have hsh := shl_nat k (by omega)
  have hmU : mU l = mB l (2 ^ k - 1) := by unfold mU; rw [hk1]
  generalize 2 ^ k = M at hp256 hp1 hsh hmU
  refine cal_fn 58 mixed Try.func65 Try.ntmps65 Try.results65 rfl rfl rfl fun hw cx hx hq => ?_
  have hpos2 : ((0 : Int) < (l.length : Int)) = True := eq_true (by omega)
  have hwu : IntKind.u64.wrap (k : Int) = k := wrap_u64 (by omega) (by omega)
  have hcr := fun m => cst_range l e2 m
  have hs0 := l04Sides (H := H) (m := 0) (n := l.length) (by omega) e2
  have hA1 := allJ_range l
  repeat (first | (simp only [go_sem, Int.reduceLT, Int.reduceLE, Int.reduceEq, Int.reduceToNat, hsol, hL, e1, e2']) | ((with_reducible refine And.intro ?_ ?_); omega) | ((with_reducible refine isSK ?_); first | (refine call_ret (l02Ok h (by omega)) (by simp only [go_sem, Int.reduceLT, Int.reduceLE, Int.reduceEq, Int.reduceToNat, hsol, hL, e1, e2']) ?_) | (refine call_ret (hs0) (by simp only [go_sem, Int.reduceLT, Int.reduceLE, Int.reduceEq, Int.reduceToNat, hsol, hL, e1, e2']) ?_) | (refine call_ret (l04All h.app h12 (by omega)) (by simp only [go_sem, Int.reduceLT, Int.reduceLE, Int.reduceEq, Int.reduceToNat, hsol, hL, e1, e2']) ?_)) | ((with_reducible refine isMC ?_); first | (refine mcall_ret (l02Ok h (by omega)) (by simp only [go_sem, Int.reduceLT, Int.reduceLE, Int.reduceEq, Int.reduceToNat, hsol, hL, e1, e2']) (by simp only [go_sem, Int.reduceLT, Int.reduceLE, Int.reduceEq, Int.reduceToNat, hsol, hL, e1, e2']) ?_) | (refine mcall_ret (hs0) (by simp only [go_sem, Int.reduceLT, Int.reduceLE, Int.reduceEq, Int.reduceToNat, hsol, hL, e1, e2']) (by simp only [go_sem, Int.reduceLT, Int.reduceLE, Int.reduceEq, Int.reduceToNat, hsol, hL, e1, e2']) ?_) | (refine mcall_ret (l04All h.app h12 (by omega)) (by simp only [go_sem, Int.reduceLT, Int.reduceLE, Int.reduceEq, Int.reduceToNat, hsol, hL, e1, e2']) (by simp only [go_sem, Int.reduceLT, Int.reduceLE, Int.reduceEq, Int.reduceToNat, hsol, hL, e1, e2']) ?_)) | ((with_reducible refine And.intro ?_ ?_); first | (with_reducible rfl) | assumption | (simp only [go_sem]; done)))
  refine WK_for (fun n : Nat => ⟨[v, .any, .any, .any, .any, .v (.int .i64 l.length), .s H.length 0 l.length (.u 0), .v (.int .i64 (cst l (mB l (n - 1)))), .v (.int .i64 n)] ++ junk 50, H ++ [⟨(sdL (mB l (n - 1)) l.length).flatMap i64C, 2, .own 1⟩]⟩) (fun n => 1 ≤ n ∧ n ≤ M) (fun n => M - n) 1 (Weak.slots ?_) ?_ fun n hn => ?_
  · simp [go_sem, mB, cst0]
  · exact ⟨Nat.le_refl _, hp1⟩
  rcases Int.lt_or_le (n : Int) M with hc2 | hc2
  · have hsucc : mB l n = if cst l n < cst l (mB l (n - 1)) then n else mB l (n - 1) := by
      obtain ⟨m, rfl⟩ : ∃ m, n = m + 1 := ⟨n - 1, by omega⟩
      rfl
    have c1 := hcr n
    generalize hb0 : mB l (n - 1) = q0 at hsucc ⊢
    have c2 := hcr q0
    have a1 := allJ_range (sdA l (sdL n l.length) 0)
    have a2 := allJ_range (sdA l (sdL n l.length) 1)
    have a3 := sdA_len l (sdL n l.length) 0
    have a4 := sdA_len l (sdL n l.length) 1
    have hce : allJ (sdA l (sdL n l.length) 0) + allJ (sdA l (sdL n l.length) 1) = cst l n := rfl
    have hrd := Rd.own (H := H) (L := [⟨(sdL q0 l.length).flatMap i64C, 2, .own 1⟩, ⟨(sdL n l.length).flatMap i64C, 2, .own 1⟩]) (l := sdL n l.length) (enc := i64C) (c := .u 0) (m := l.length) 1 rfl rfl (sdL_len _ _).symm
    have hs1 := l04Sides (H := H ++ [⟨(sdL q0 l.length).flatMap i64C, 2, .own 1⟩]) (m := n) (n := l.length) (by omega) e2
    have hsp := l04Split h.app hrd (by omega) (sdL_len _ _) (sdL_01 n l.length)
    by_cases e5 : cst l n < cst l q0
    · rw [if_pos e5] at hsucc
      repeat (first | (simp only [go_sem, Int.reduceLT, Int.reduceLE, Int.reduceEq, Int.reduceToNat, hsol, hpos2, hkk, hwu, hsh, hc2, hce, e5]) | ((with_reducible refine And.intro ?_ ?_); omega) | ((with_reducible refine isSK ?_); first | (refine call_ret (hs1) (by simp only [go_sem, Int.reduceLT, Int.reduceLE, Int.reduceEq, Int.reduceToNat, hsol, hpos2, hkk, hwu, hsh, hc2, hce, e5]) ?_) | (refine call_ret (hsp) (by simp only [go_sem, Int.reduceLT, Int.reduceLE, Int.reduceEq, Int.reduceToNat, hsol, hpos2, hkk, hwu, hsh, hc2, hce, e5]) ?_) | (refine call_ret (l04All (l := sdA l (sdL n l.length) 0) (Rd.own 2 rfl rfl rfl) (sdA_12 h12 _ _) (by omega)) (by simp only [go_sem, Int.reduceLT, Int.reduceLE, Int.reduceEq, Int.reduceToNat, hsol, hpos2, hkk, hwu, hsh, hc2, hce, e5]) ?_) | (refine call_ret (l04All (l := sdA l (sdL n l.length) 1) (Rd.own 3 rfl rfl rfl) (sdA_12 h12 _ _) (by omega)) (by simp only [go_sem, Int.reduceLT, Int.reduceLE, Int.reduceEq, Int.reduceToNat, hsol, hpos2, hkk, hwu, hsh, hc2, hce, e5]) ?_)) | ((with_reducible refine isMC ?_); first | (refine mcall_ret (hs1) (by simp only [go_sem, Int.reduceLT, Int.reduceLE, Int.reduceEq, Int.reduceToNat, hsol, hpos2, hkk, hwu, hsh, hc2, hce, e5]) (by simp only [go_sem, Int.reduceLT, Int.reduceLE, Int.reduceEq, Int.reduceToNat, hsol, hpos2, hkk, hwu, hsh, hc2, hce, e5]) ?_) | (refine mcall_ret (hsp) (by simp only [go_sem, Int.reduceLT, Int.reduceLE, Int.reduceEq, Int.reduceToNat, hsol, hpos2, hkk, hwu, hsh, hc2, hce, e5]) (by simp only [go_sem, Int.reduceLT, Int.reduceLE, Int.reduceEq, Int.reduceToNat, hsol, hpos2, hkk, hwu, hsh, hc2, hce, e5]) ?_) | (refine mcall_ret (l04All (l := sdA l (sdL n l.length) 0) (Rd.own 2 rfl rfl rfl) (sdA_12 h12 _ _) (by omega)) (by simp only [go_sem, Int.reduceLT, Int.reduceLE, Int.reduceEq, Int.reduceToNat, hsol, hpos2, hkk, hwu, hsh, hc2, hce, e5]) (by simp only [go_sem, Int.reduceLT, Int.reduceLE, Int.reduceEq, Int.reduceToNat, hsol, hpos2, hkk, hwu, hsh, hc2, hce, e5]) ?_) | (refine mcall_ret (l04All (l := sdA l (sdL n l.length) 1) (Rd.own 3 rfl rfl rfl) (sdA_12 h12 _ _) (by omega)) (by simp only [go_sem, Int.reduceLT, Int.reduceLE, Int.reduceEq, Int.reduceToNat, hsol, hpos2, hkk, hwu, hsh, hc2, hce, e5]) (by simp only [go_sem, Int.reduceLT, Int.reduceLE, Int.reduceEq, Int.reduceToNat, hsol, hpos2, hkk, hwu, hsh, hc2, hce, e5]) ?_)) | ((with_reducible refine And.intro ?_ ?_); first | (with_reducible rfl) | assumption | (simp only [go_sem]; done)))
      refine EK_again (n + 1) ?_ ⟨by omega, by omega⟩ (by omega)
      rw [Nat.add_sub_cancel, hsucc]
      exact Weak.pickC [some 1] (by simp [go_sem, flat_i64.lts]) (by decide) (by simp [hx]) hw (by simp [go_sem, h.renC] <;> omega)
    · rw [if_neg e5] at hsucc
      repeat (first | (simp only [go_sem, Int.reduceLT, Int.reduceLE, Int.reduceEq, Int.reduceToNat, hsol, hpos2, hkk, hwu, hsh, hc2, hce, e5]) | ((with_reducible refine And.intro ?_ ?_); omega) | ((with_reducible refine isSK ?_); first | (refine call_ret (hs1) (by simp only [go_sem, Int.reduceLT, Int.reduceLE, Int.reduceEq, Int.reduceToNat, hsol, hpos2, hkk, hwu, hsh, hc2, hce, e5]) ?_) | (refine call_ret (hsp) (by simp only [go_sem, Int.reduceLT, Int.reduceLE, Int.reduceEq, Int.reduceToNat, hsol, hpos2, hkk, hwu, hsh, hc2, hce, e5]) ?_) | (refine call_ret (l04All (l := sdA l (sdL n l.length) 0) (Rd.own 2 rfl rfl rfl) (sdA_12 h12 _ _) (by omega)) (by simp only [go_sem, Int.reduceLT, Int.reduceLE, Int.reduceEq, Int.reduceToNat, hsol, hpos2, hkk, hwu, hsh, hc2, hce, e5]) ?_) | (refine call_ret (l04All (l := sdA l (sdL n l.length) 1) (Rd.own 3 rfl rfl rfl) (sdA_12 h12 _ _) (by omega)) (by simp only [go_sem, Int.reduceLT, Int.reduceLE, Int.reduceEq, Int.reduceToNat, hsol, hpos2, hkk, hwu, hsh, hc2, hce, e5]) ?_)) | ((with_reducible refine isMC ?_); first | (refine mcall_ret (hs1) (by simp only [go_sem, Int.reduceLT, Int.reduceLE, Int.reduceEq, Int.reduceToNat, hsol, hpos2, hkk, hwu, hsh, hc2, hce, e5]) (by simp only [go_sem, Int.reduceLT, Int.reduceLE, Int.reduceEq, Int.reduceToNat, hsol, hpos2, hkk, hwu, hsh, hc2, hce, e5]) ?_) | (refine mcall_ret (hsp) (by simp only [go_sem, Int.reduceLT, Int.reduceLE, Int.reduceEq, Int.reduceToNat, hsol, hpos2, hkk, hwu, hsh, hc2, hce, e5]) (by simp only [go_sem, Int.reduceLT, Int.reduceLE, Int.reduceEq, Int.reduceToNat, hsol, hpos2, hkk, hwu, hsh, hc2, hce, e5]) ?_) | (refine mcall_ret (l04All (l := sdA l (sdL n l.length) 0) (Rd.own 2 rfl rfl rfl) (sdA_12 h12 _ _) (by omega)) (by simp only [go_sem, Int.reduceLT, Int.reduceLE, Int.reduceEq, Int.reduceToNat, hsol, hpos2, hkk, hwu, hsh, hc2, hce, e5]) (by simp only [go_sem, Int.reduceLT, Int.reduceLE, Int.reduceEq, Int.reduceToNat, hsol, hpos2, hkk, hwu, hsh, hc2, hce, e5]) ?_) | (refine mcall_ret (l04All (l := sdA l (sdL n l.length) 1) (Rd.own 3 rfl rfl rfl) (sdA_12 h12 _ _) (by omega)) (by simp only [go_sem, Int.reduceLT, Int.reduceLE, Int.reduceEq, Int.reduceToNat, hsol, hpos2, hkk, hwu, hsh, hc2, hce, e5]) (by simp only [go_sem, Int.reduceLT, Int.reduceLE, Int.reduceEq, Int.reduceToNat, hsol, hpos2, hkk, hwu, hsh, hc2, hce, e5]) ?_)) | ((with_reducible refine And.intro ?_ ?_); first | (with_reducible rfl) | assumption | (simp only [go_sem]; done)))
      refine EK_again (n + 1) ?_ ⟨by omega, by omega⟩ (by omega)
      rw [Nat.add_sub_cancel, hsucc]
      exact Weak.pickC [some 0] (by simp [go_sem, flat_i64.lts]) (by decide) (by simp [hx]) hw (by simp [go_sem, h.renC] <;> omega)
  · have : n = M := by omega
    subst this
    repeat (first | (simp only [go_sem, Int.reduceLT, Int.reduceLE, Int.reduceEq, Int.reduceToNat, hsol, hpos2, hkk, hwu, hsh, Int.not_lt.2 hc2]) | ((with_reducible refine And.intro ?_ ?_); omega) | ((with_reducible refine And.intro ?_ ?_); first | (with_reducible rfl) | assumption | (simp only [go_sem]; done)))
    refine ret_at hq _ (.inl rfl) (by simp) ?_
    simp [go_sem, hmU]
theorem implUnmix_ok {H : List Blk} {v : V} {l : List (Nat → Int)} (h : Rd H v (rowL .u16 12) l) (hR : ∀ f ∈ l, R16 f) (hc : unmC l = 0) (hne : l ≠ []) :
    Cal Try.prog 64 [v] H fun u H' => u = .t [.s H.length 0 l.length (.u 0), .v (.int .i64 (cst l (mU l))), .v (.int .i64 0)] ∧ H' = H ++ [⟨(sdL (mU l) l.length).flatMap i64C, 2, .own 1⟩] := by
  have hsol := h.solid
  have hL := h.lenV (P := Try.prog) slTy53
  obtain ⟨e1, e2⟩ := unm_ok hc
  have h12 := okB_12 e1 hR
  have hpos : 0 < l.length := List.length_pos_iff.2 hne
  obtain ⟨k, hk⟩ : ∃ k, l.length = k + 1 := ⟨l.length - 1, by omega⟩
  have hkk : (l.length : Int) - 1 = (k : Int) := by omega
  have hk1 : l.length - 1 = k := by omega
  have e2' : ((8 : Int) < (l.length : Int)) = False := eq_false (by omega)
  have e3 : ((l.length : Int) = 0) = False := eq_false (by omega)
  have hp256 := pow_le_256 (i := k) (by omega)
  have hp1 : 1 ≤ 2 ^ k := Nat.one_le_two_pow
  have hsh := shl_nat k (by omega)
  have hmU : mU l = mB l (2 ^ k - 1) := by unfold mU; rw [hk1]
  generalize 2 ^ k = M at hp256 hp1 hsh hmU
  refine cal_fn 69 mixed Try.func64 Try.ntmps64 Try.results64 rfl rfl rfl fun hw cx hx hq => ?_
  have hcr := fun m => cst_range l e2 m
  repeat (first | (simp only [go_sem, Int.reduceLT, Int.reduceLE, Int.reduceEq, Int.reduceToNat, hsol, hL, e1, e2', e3, hkk, hsh]) | ((with_reducible refine And.intro ?_ ?_); omega) | ((with_reducible refine isSK ?_); first | (refine call_ret (validBook h (by omega)) (by simp only [go_sem, Int.reduceLT, Int.reduceLE, Int.reduceEq, Int.reduceToNat, hsol, hL, e1, e2', e3, hkk, hsh]) ?_)) | ((with_reducible refine isMC ?_); first | (refine mcall_ret (validBook h (by omega)) (by simp only [go_sem, Int.reduceLT, Int.reduceLE, Int.reduceEq, Int.reduceToNat, hsol, hL, e1, e2', e3, hkk, hsh]) (by simp only [go_sem, Int.reduceLT, Int.reduceLE, Int.reduceEq, Int.reduceToNat, hsol, hL, e1, e2', e3, hkk, hsh]) ?_)) | ((with_reducible refine And.intro ?_ ?_); first | (with_reducible rfl) | assumption | (simp only [go_sem]; done)))
  refine WK_for (fun n : Nat => ⟨[v, .any, .any, .any, .any, hdU H.length l.length n, .v (.int .i64 (if n = 0 then 0 else cst l (mB l (n - 1)))), .any, .any, .any, .any, .any, .any, .any, .any, .any, .any, .any, .any, .any, .any, .any, .any, .any, .any, .any, .any, .any, .v (.int .i64 M), .v (.int .i64 n)] ++ junk 40, H ++ [rwU l n]⟩) (fun n => n ≤ M) (fun n => M - n) 0 ?_ ?_ fun n hn => ?_
  · simp only [hdU_0, rwU_0]
    refine (Weak.slots ?_).trans (Weak.deads (H := H) 1)
    simp [go_sem]
  · simp
  rcases Int.lt_or_le (n : Int) M with hc2 | hc2
  · have c1 := hcr n
    have a1 := allJ_range (sdA l (sdL n l.length) 0)
    have a2 := allJ_range (sdA l (sdL n l.length) 1)
    have a3 := sdA_len l (sdL n l.length) 0
    have a4 := sdA_len l (sdL n l.length) 1
    have hce : allJ (sdA l (sdL n l.length) 0) + allJ (sdA l (sdL n l.length) 1) = cst l n := rfl
    have sA : ∀ j c, (hdW j c (sdA l (sdL n l.length) 0)).solid = true := fun j c => hdW_solid _ _ _
    have sB : ∀ j c, (hdW j c (sdA l (sdL n l.length) 1)).solid = true := fun j c => hdW_solid _ _ _
    have hd1 : (H.length = H.length + 1) = False := eq_false (by omega)
    have hd2 : (H.length + 2 = H.length + 1) = False := eq_false (by omega)
    have hn1 : norefH (H.length + 1) H := norefH_wf hw (by omega)
    have hdc : deadB.cells = [] := rfl
    have hnd : norefs (H.length + 1) deadB.cells = true := rfl
    have hfg := h.forget (n := H.length + 1) (Nat.le_succ _)
    have hne0 : ((n : Int) + 1 = 0) = False := eq_false (by omega)
    have t0 : (l.length : Int) - 1 - (l.length : Int) = -1 := by omega
    rcases Nat.eq_zero_or_pos n with n0 | n0
    · have u0 : hdU H.length l.length n = .v (.slice none 0 0) := by rw [n0]; rfl
      have u1 : rwU l n = deadB := by rw [n0]; rfl
      have hm0 : mB l n = n := by rw [n0]; rfl
      simp only [u0, u1, if_pos n0]
      repeat (first | (simp only [go_sem, Int.reduceLT, Int.reduceLE, Int.reduceEq, Int.reduceToNat, hsol, hL, hc2, hkk]) | ((with_reducible refine And.intro ?_ ?_); omega) | ((with_reducible refine And.intro ?_ ?_); first | (with_reducible rfl) | assumption | (simp only [go_sem]; done)))
      refine WK_for (fun t : Nat => ⟨[v, .any, .any, .any, .any, .v (.slice none 0 0), .v (.int .i64 0), .v (.int .i64 n), .s (H.length + 1) 0 t (.u 0), .v (.int .i64 ((l.length : Int) - 1 - t)), .any, .any, .any, .any, .any, .any, .any, .any, .any, .any, .any, .any, .any, .any, .any, .any, .any, .any, .v (.int .i64 M), .v (.int .i64 n)] ++ junk 40, H ++ [deadB, ⟨(sdT n l.length t).flatMap i64C, 2, .own 1⟩]⟩) (fun t => t ≤ l.length) (fun t => l.length - t) 0 (Weak.slots ?_) ?_ fun t ht => ?_
      · simp [go_sem, sdT, hkk]
      · simp
      have hlen := sdT_len n l.length t
      have hl2 : ((sdT n l.length t).flatMap i64C).length = t := by rw [flat_i64.flen, Nat.mul_one, hlen]
      have hn2 : norefs (H.length + 1) ((sdT n l.length t).flatMap i64C) = true := flat_i64.norefs _ _
      rcases Int.lt_or_le (t : Int) l.length with hc | hc
      · obtain ⟨i, hi⟩ : ∃ i : Nat, (l.length : Int) - 1 - t = i := ⟨l.length - 1 - t, by omega⟩
        have hi2 : l.length - 1 - t = i := by omega
        have hb := bit_eq n i (by omega) (by omega)
        have hb01 := bitF_01 n i
        have hi0 : (0 : Int) ≤ (i : Int) := by omega
        have e6 := sdT_succ n l.length t
        rw [hi2] at e6
        rw [hi]
        have hwu : IntKind.u64.wrap (i : Int) = i := wrap_u64 (by omega) (by omega)
        repeat (first | (simp only [go_sem, Int.reduceLT, Int.reduceLE, Int.reduceEq, Int.reduceToNat, hnd, hfg, hi0, hwu, hb, hl2, hn1, hn2, hd1, hd2, hx]) | ((with_reducible refine And.intro ?_ ?_); omega) | ((with_reducible refine And.intro ?_ ?_); first | (with_reducible rfl) | assumption | (simp only [go_sem]; done)))
        refine EK_again (t + 1) ?_ (by omega) (by omega)
        have e4 : (l.length : Int) - 1 - (t + 1 : Nat) = i - 1 := by omega
        rw [e6, e4, flat_snoc]
        exact Weak.keepN rfl (by simp [go_sem] <;> omega) (by simp [hx]) (by simp [go_sem, h.vlt (n := H.length + 2) (by omega), hdc, flat_i64.lts, i64C] <;> omega) (hw.app (by simp [go_sem, h.vlt (n := H.length + 2) (by omega), hdc, flat_i64.lts, i64C] <;> omega))
      have : t = l.length := by omega
      subst this
      have eSL : sdT n l.length l.length = sdL n l.length := rfl
      rw [eSL, t0]
      have hrd := Rd.own (H := H) (L := [deadB, ⟨(sdL n l.length).flatMap i64C, 2, .own 1⟩]) (l := sdL n l.length) (enc := i64C) (c := .u 0) (m := l.length) 1 rfl rfl (sdL_len _ _).symm
      have hsp := mixedW h.app hrd (by omega) (sdL_len _ _) (sdL_01 n l.length)
      repeat (first | (simp only [go_sem, Int.reduceLT, Int.reduceLE, Int.reduceEq, Int.reduceToNat, hsol, sA, sB, hce]) | ((with_reducible refine And.intro ?_ ?_); omega) | ((with_reducible refine isSK ?_); first | (refine call_ret (hsp) (by simp only [go_sem, Int.reduceLT, Int.reduceLE, Int.reduceEq, Int.reduceToNat, hsol, sA, sB, hce]) ?_) | (refine call_ret (allJumps (l := sdA l (sdL n l.length) 0) (rdW 3 rfl) (sdA_12 h12 _ _) (by omega)) (by simp only [go_sem, Int.reduceLT, Int.reduceLE, Int.reduceEq, Int.reduceToNat, hsol, sA, sB, hce]) ?_) | (refine call_ret (allJumps (l := sdA l (sdL n l.length) 1) (rdW 4 rfl) (sdA_12 h12 _ _) (by omega)) (by simp only [go_sem, Int.reduceLT, Int.reduceLE, Int.reduceEq, Int.reduceToNat, hsol, sA, sB, hce]) ?_)) | ((with_reducible refine isMC ?_); first | (refine mcall_ret (hsp) (by simp only [go_sem, Int.reduceLT, Int.reduceLE, Int.reduceEq, Int.reduceToNat, hsol, sA, sB, hce]) (by simp only [go_sem, Int.reduceLT, Int.reduceLE, Int.reduceEq, Int.reduceToNat, hsol, sA, sB, hce]) ?_) | (refine mcall_ret (allJumps (l := sdA l (sdL n l.length) 0) (rdW 3 rfl) (sdA_12 h12 _ _) (by omega)) (by simp only [go_sem, Int.reduceLT, Int.reduceLE, Int.reduceEq, Int.reduceToNat, hsol, sA, sB, hce]) (by simp only [go_sem, Int.reduceLT, Int.reduceLE, Int.reduceEq, Int.reduceToNat, hsol, sA, sB, hce]) ?_) | (refine mcall_ret (allJumps (l := sdA l (sdL n l.length) 1) (rdW 4 rfl) (sdA_12 h12 _ _) (by omega)) (by simp only [go_sem, Int.reduceLT, Int.reduceLE, Int.reduceEq, Int.reduceToNat, hsol, sA, sB, hce]) (by simp only [go_sem, Int.reduceLT, Int.reduceLE, Int.reduceEq, Int.reduceToNat, hsol, sA, sB, hce]) ?_)) | ((with_reducible refine And.intro ?_ ?_); first | (with_reducible rfl) | assumption | (simp only [go_sem]; done)))
      refine EK_again (n + 1) ?_ (by omega) (by omega)
      rw [hdU_at (by omega), rwU_at (by omega), if_neg (by omega), Nat.add_sub_cancel, hm0]
      exact Weak.pickC [some 1] (by simp [go_sem, flat_i64.lts]) (by decide) (by simp [hx]) hw (by simp [go_sem, h.renC] <;> omega)
    · have n1 : n ≠ 0 := by omega
      simp only [hdU_at n1, rwU_at n1, if_neg n1]
      have hsucc : mB l n = if cst l n < cst l (mB l (n - 1)) then n else mB l (n - 1) := by
        obtain ⟨m, rfl⟩ : ∃ m, n = m + 1 := ⟨n - 1, by omega⟩
        rfl
      generalize hb0 : mB l (n - 1) = q0 at hsucc ⊢
      have c2 := hcr q0
      have hn3 : norefs (H.length + 1) ((sdL q0 l.length).flatMap i64C) = true := flat_i64.norefs _ _
      repeat (first | (simp only [go_sem, Int.reduceLT, Int.reduceLE, Int.reduceEq, Int.reduceToNat, hsol, hL, hc2, hkk]) | ((with_reducible refine And.intro ?_ ?_); omega) | ((with_reducible refine And.intro ?_ ?_); first | (with_reducible rfl) | assumption | (simp only [go_sem]; done)))
      refine WK_for (fun t : Nat => ⟨[v, .any, .any, .any, .any, .s H.length 0 l.length (.u 0), .v (.int .i64 (cst l q0)), .v (.int .i64 n), .s (H.length + 1) 0 t (.u 0), .v (.int .i64 ((l.length : Int) - 1 - t)), .any, .any, .any, .any, .any, .any, .any, .any, .any, .any, .any, .any, .any, .any, .any, .any, .any, .any, .v (.int .i64 M), .v (.int .i64 n)] ++ junk 40, H ++ [⟨(sdL q0 l.length).flatMap i64C, 2, .own 1⟩, ⟨(sdT n l.length t).flatMap i64C, 2, .own 1⟩]⟩) (fun t => t ≤ l.length) (fun t => l.length - t) 0 (Weak.slots ?_) ?_ fun t ht => ?_
      · simp [go_sem, sdT, hkk]
      · simp
      have hlen := sdT_len n l.length t
      have hl2 : ((sdT n l.length t).flatMap i64C).length = t := by rw [flat_i64.flen, Nat.mul_one, hlen]
      have hn2 : norefs (H.length + 1) ((sdT n l.length t).flatMap i64C) = true := flat_i64.norefs _ _
      rcases Int.lt_or_le (t : Int) l.length with hc | hc
      · obtain ⟨i, hi⟩ : ∃ i : Nat, (l.length : Int) - 1 - t = i := ⟨l.length - 1 - t, by omega⟩
        have hi2 : l.length - 1 - t = i := by omega
        have hb := bit_eq n i (by omega) (by omega)
        have hb01 := bitF_01 n i
        have hi0 : (0 : Int) ≤ (i : Int) := by omega
        have e6 := sdT_succ n l.length t
        rw [hi2] at e6
        rw [hi]
        have hwu : IntKind.u64.wrap (i : Int) = i := wrap_u64 (by omega) (by omega)
        repeat (first | (simp only [go_sem, Int.reduceLT, Int.reduceLE, Int.reduceEq, Int.reduceToNat, hnd, hfg, hi0, hwu, hb, hl2, hn1, hn2, hn3, hd1, hd2, hx]) | ((with_reducible refine And.intro ?_ ?_); omega) | ((with_reducible refine And.intro ?_ ?_); first | (with_reducible rfl) | assumption | (simp only [go_sem]; done)))
        refine EK_again (t + 1) ?_ (by omega) (by omega)
        have e4 : (l.length : Int) - 1 - (t + 1 : Nat) = i - 1 := by omega
        rw [e6, e4, flat_snoc]
        exact Weak.keepN rfl (by simp [go_sem] <;> omega) (by simp [hx]) (by simp [go_sem, h.vlt (n := H.length + 2) (by omega), hdc, flat_i64.lts, i64C] <;> omega) (hw.app (by simp [go_sem, h.vlt (n := H.length + 2) (by omega), hdc, flat_i64.lts, i64C] <;> omega))
      have : t = l.length := by omega
      subst this
      have eSL : sdT n l.length l.length = sdL n l.length := rfl
      rw [eSL, t0]
      have hrd := Rd.own (H := H) (L := [⟨(sdL q0 l.length).flatMap i64C, 2, .own 1⟩, ⟨(sdL n l.length).flatMap i64C, 2, .own 1⟩]) (l := sdL n l.length) (enc := i64C) (c := .u 0) (m := l.length) 1 rfl rfl (sdL_len _ _).symm
      have hsp := mixedW h.app hrd (by omega) (sdL_len _ _) (sdL_01 n l.length)
      by_cases e5 : cst l n < cst l q0
      · rw [if_pos e5] at hsucc
        repeat (first | (simp only [go_sem, Int.reduceLT, Int.reduceLE, Int.reduceEq, Int.reduceToNat, hsol, sA, sB, hce, e5]) | ((with_reducible refine And.intro ?_ ?_); omega) | ((with_reducible refine isSK ?_); first | (refine call_ret (hsp) (by simp only [go_sem, Int.reduceLT, Int.reduceLE, Int.reduceEq, Int.reduceToNat, hsol, sA, sB, hce, e5]) ?_) | (refine call_ret (allJumps (l := sdA l (sdL n l.length) 0) (rdW 3 rfl) (sdA_12 h12 _ _) (by omega)) (by simp only [go_sem, Int.reduceLT, Int.reduceLE, Int.reduceEq, Int.reduceToNat, hsol, sA, sB, hce, e5]) ?_) | (refine call_ret (allJumps (l := sdA l (sdL n l.length) 1) (rdW 4 rfl) (sdA_12 h12 _ _) (by omega)) (by simp only [go_sem, Int.reduceLT, Int.reduceLE, Int.reduceEq, Int.reduceToNat, hsol, sA, sB, hce, e5]) ?_)) | ((with_reducible refine isMC ?_); first | (refine mcall_ret (hsp) (by simp only [go_sem, Int.reduceLT, Int.reduceLE, Int.reduceEq, Int.reduceToNat, hsol, sA, sB, hce, e5]) (by simp only [go_sem, Int.reduceLT, Int.reduceLE, Int.reduceEq, Int.reduceToNat, hsol, sA, sB, hce, e5]) ?_) | (refine mcall_ret (allJumps (l := sdA l (sdL n l.length) 0) (rdW 3 rfl) (sdA_12 h12 _ _) (by omega)) (by simp only [go_sem, Int.reduceLT, Int.reduceLE, Int.reduceEq, Int.reduceToNat, hsol, sA, sB, hce, e5]) (by simp only [go_sem, Int.reduceLT, Int.reduceLE, Int.reduceEq, Int.reduceToNat, hsol, sA, sB, hce, e5]) ?_) | (refine mcall_ret (allJumps (l := sdA l (sdL n l.length) 1) (rdW 4 rfl) (sdA_12 h12 _ _) (by omega)) (by simp only [go_sem, Int.reduceLT, Int.reduceLE, Int.reduceEq, Int.reduceToNat, hsol, sA, sB, hce, e5]) (by simp only [go_sem, Int.reduceLT, Int.reduceLE, Int.reduceEq, Int.reduceToNat, hsol, sA, sB, hce, e5]) ?_)) | ((with_reducible refine And.intro ?_ ?_); first | (with_reducible rfl) | assumption | (simp only [go_sem]; done)))
        refine EK_again (n + 1) ?_ (by omega) (by omega)
        rw [hdU_at (by omega), rwU_at (by omega), if_neg (by omega), Nat.add_sub_cancel, hsucc]
        exact Weak.pickC [some 1] (by simp [go_sem, flat_i64.lts]) (by decide) (by simp [hx]) hw (by simp [go_sem, h.renC] <;> omega)
      · rw [if_neg e5] at hsucc
        repeat (first | (simp only [go_sem, Int.reduceLT, Int.reduceLE, Int.reduceEq, Int.reduceToNat, hsol, sA, sB, hce, e5]) | ((with_reducible refine And.intro ?_ ?_); omega) | ((with_reducible refine isSK ?_); first | (refine call_ret (hsp) (by simp only [go_sem, Int.reduceLT, Int.reduceLE, Int.reduceEq, Int.reduceToNat, hsol, sA, sB, hce, e5]) ?_) | (refine call_ret (allJumps (l := sdA l (sdL n l.length) 0) (rdW 3 rfl) (sdA_12 h12 _ _) (by omega)) (by simp only [go_sem, Int.reduceLT, Int.reduceLE, Int.reduceEq, Int.reduceToNat, hsol, sA, sB, hce, e5]) ?_) | (refine call_ret (allJumps (l := sdA l (sdL n l.length) 1) (rdW 4 rfl) (sdA_12 h12 _ _) (by omega)) (by simp only [go_sem, Int.reduceLT, Int.reduceLE, Int.reduceEq, Int.reduceToNat, hsol, sA, sB, hce, e5]) ?_)) | ((with_reducible refine isMC ?_); first | (refine mcall_ret (hsp) (by simp only [go_sem, Int.reduceLT, Int.reduceLE, Int.reduceEq, Int.reduceToNat, hsol, sA, sB, hce, e5]) (by simp only [go_sem, Int.reduceLT, Int.reduceLE, Int.reduceEq, Int.reduceToNat, hsol, sA, sB, hce, e5]) ?_) | (refine mcall_ret (allJumps (l := sdA l (sdL n l.length) 0) (rdW 3 rfl) (sdA_12 h12 _ _) (by omega)) (by simp only [go_sem, Int.reduceLT, Int.reduceLE, Int.reduceEq, Int.reduceToNat, hsol, sA, sB, hce, e5]) (by simp only [go_sem, Int.reduceLT, Int.reduceLE, Int.reduceEq, Int.reduceToNat, hsol, sA, sB, hce, e5]) ?_) | (refine mcall_ret (allJumps (l := sdA l (sdL n l.length) 1) (rdW 4 rfl) (sdA_12 h12 _ _) (by omega)) (by simp only [go_sem, Int.reduceLT, Int.reduceLE, Int.reduceEq, Int.reduceToNat, hsol, sA, sB, hce, e5]) (by simp only [go_sem, Int.reduceLT, Int.reduceLE, Int.reduceEq, Int.reduceToNat, hsol, sA, sB, hce, e5]) ?_)) | ((with_reducible refine And.intro ?_ ?_); first | (with_reducible rfl) | assumption | (simp only [go_sem]; done)))
        refine EK_again (n + 1) ?_ (by omega) (by omega)
        rw [hdU_at (by omega), rwU_at (by omega), if_neg (by omega), Nat.add_sub_cancel, hsucc]
        exact Weak.pickC [some 0] (by simp [go_sem, flat_i64.lts]) (by decide) (by simp [hx]) hw (by simp [go_sem, h.renC] <;> omega)
  · have : n = M := by omega
    subst this
    have n1 : n ≠ 0 := by omega
    rw [hdU_at n1, rwU_at n1, if_neg n1]
    repeat (first | (simp only [go_sem, Int.reduceLT, Int.reduceLE, Int.reduceEq, Int.reduceToNat, hsol, Int.not_lt.2 hc2]) | ((with_reducible refine And.intro ?_ ?_); omega) | ((with_reducible refine And.intro ?_ ?_); first | (with_reducible rfl) | assumption | (simp only [go_sem]; done)))
    refine ret_at hq _ (.inl rfl) (by simp) ?_
    simp [go_sem, hmU]
end Go.Proofs.Ytpginknbmmdmoaa

