/- Contracts of functions of the translated program, by the walk. -/
import Derived.Test.YtpjimhkblldhaaaDoorDt2
import Derived.Test.YtpjimhkblldhaaaDoorDt5
import Derived.Lib.Split
import Derived.Lib.ParseIntBTie
set_option linter.unusedVariables false
set_option linter.unusedSimpArgs false
set_option maxRecDepth 8000
set_option maxHeartbeats 4000000
namespace Go.Proofs.YtpjimhkblldhaaaDoor
open Go Go.Sx
open Go.Proofs
/-- A list split at each such byte. -/
def splA (by_ : Int) (acc : List Int) : List Int → List (List Int)
  | [] => [acc]
  | c :: r => if c = by_ then acc :: splA by_ [] r else splA by_ (acc ++ [c]) r
def spl (by_ : Int) (t : List Int) : List (List Int) := splA by_ [] t
theorem splA_acc (by_ : Int) : ∀ (t acc : List Int), (by_ ∉ t ∧ splA by_ acc t = [acc ++ t]) ∨ ∃ l r, t = l ++ by_ :: r ∧ by_ ∉ l ∧ splA by_ acc t = (acc ++ l) :: splA by_ [] r
  | [], acc => .inl ⟨by simp, by simp [splA]⟩
  | c :: t, acc => by
    have hs : splA by_ acc (c :: t) = if c = by_ then acc :: splA by_ [] t else splA by_ (acc ++ [c]) t := rfl
    rw [hs]
    by_cases h : c = by_
    · rw [if_pos h]
      exact .inr ⟨[], t, by simp [h], by simp, by simp⟩
    · rw [if_neg h]
      rcases splA_acc by_ t (acc ++ [c]) with ⟨h1, h2⟩ | ⟨l, r, h1, h2, h3⟩
      · exact .inl ⟨by simp [h1]; exact fun e => h e.symm, by rw [h2]; simp⟩
      · exact .inr ⟨c :: l, r, by simp [h1], by simp [h2]; exact fun e => h e.symm, by rw [h3]; simp⟩
theorem spl_view (by_ : Int) (t : List Int) : (by_ ∉ t ∧ spl by_ t = [t]) ∨ ∃ l r, t = l ++ by_ :: r ∧ by_ ∉ l ∧ spl by_ t = l :: spl by_ r := by
  have := splA_acc by_ t []
  simpa [spl] using this
theorem spl_len_le (by_ : Int) : ∀ (t acc : List Int), (splA by_ acc t).length ≤ t.length + 1
  | [], acc => by simp [splA]
  | c :: t, acc => by
    unfold splA
    split
    · have := spl_len_le by_ t []; simp; omega
    · have := spl_len_le by_ t (acc ++ [c]); simp; omega
theorem bstr_u8' (l : List Int) : (bstr l).data.toList = u8L l := by simp [bstr, u8L]
theorem u8_inj {x y : Int} (hx : 0 ≤ x ∧ x ≤ 255) (hy : 0 ≤ y ∧ y ≤ 255) (h : UInt8.ofNat x.toNat = UInt8.ofNat y.toNat) : x = y := by
  have := congrArg UInt8.toNat h
  simp at this
  omega
theorem u8L_cons (x : Int) (l : List Int) : u8L (x :: l) = UInt8.ofNat x.toNat :: u8L l := rfl
theorem u8L_app (a b : List Int) : u8L (a ++ b) = u8L a ++ u8L b := by simp [u8L]
theorem u8L_len (l : List Int) : (u8L l).length = l.length := by simp [u8L]
theorem index_miss {c : Int} (hc : 0 ≤ c ∧ c ≤ 255) : ∀ {t : List Int}, B8 t → c ∉ t → Lib.index (u8L t) (u8L [c]) = -1
  | [], _, _ => rfl
  | x :: t, h8, h => by
    have h1 : x ≠ c := fun e => h (by rw [e]; exact List.mem_cons_self ..)
    have ih := index_miss hc (fun y hy => h8 y (List.mem_cons_of_mem _ hy)) (fun e => h (List.mem_cons_of_mem _ e))
    have h2 : (u8L [c]).isPrefixOf (u8L (x :: t)) = false := by
      rw [u8L_cons, u8L_cons]
      simp only [List.isPrefixOf, Bool.and_eq_false_iff]
      left
      rw [beq_eq_false_iff_ne]
      exact fun e => h1 (u8_inj (h8 x (List.mem_cons_self ..)) hc e.symm)
    rw [u8L_cons x t] at h2 ⊢
    rw [Lib.index, h2, ih]
    rfl
theorem index_hit' {c : Int} (hc : 0 ≤ c ∧ c ≤ 255) {r : List Int} : ∀ {l : List Int}, B8 l → c ∉ l → Lib.index (u8L (l ++ c :: r)) (u8L [c]) = l.length
  | [], _, _ => by
    show Lib.index (u8L (c :: r)) (u8L [c]) = 0
    rw [u8L_cons c r, Lib.index, if_pos]
    simp [u8L, List.isPrefixOf]
  | x :: l, h8, h => by
    have h1 : x ≠ c := fun e => h (by rw [e]; exact List.mem_cons_self ..)
    have ih := index_hit' hc (r := r) (fun y hy => h8 y (List.mem_cons_of_mem _ hy)) (fun e => h (List.mem_cons_of_mem _ e))
    have h2 : (u8L [c]).isPrefixOf (u8L (x :: (l ++ c :: r))) = false := by
      rw [u8L_cons, u8L_cons]
      simp only [List.isPrefixOf, Bool.and_eq_false_iff]
      left
      rw [beq_eq_false_iff_ne]
      exact fun e => h1 (u8_inj (h8 x (List.mem_cons_self ..)) hc e.symm)
    rw [List.cons_append, u8L_cons x] at *
    rw [Lib.index, h2, ih]
    have h3 : (((l.length : Int)) == -1) = false := by rw [beq_eq_false_iff_ne]; omega
    simp only [Bool.false_eq_true, if_false, h3, List.length_cons]
    omega
theorem B8.left' {a b : List Int} (h : B8 (a ++ b)) : B8 a := fun x hx => h x (List.mem_append_left _ hx)
theorem B8.right' {a b : List Int} (h : B8 (a ++ b)) : B8 b := fun x hx => h x (List.mem_append_right _ hx)
/-- The library's splitting is the same. -/
theorem split_lib {c : Int} (hc : 0 ≤ c ∧ c ≤ 255) : ∀ (n : Nat) (t : List Int), t.length < n → B8 t → Lib.splitK (u8L [c]) 0 (Lib.countFrom (u8L [c]) n (u8L t)) (u8L t) = (spl c t).map u8L
  | 0, t, h, _ => absurd h (Nat.not_lt_zero _)
  | n + 1, t, h, h8 => by
    rcases spl_view c t with ⟨h1, h2⟩ | ⟨l, r, h1, h2, h3⟩
    · have e := index_miss hc h8 h1
      rw [h2, Lib.countFrom, e]
      rfl
    · subst h1
      have e := index_hit' hc (r := r) (B8.left' h8) h2
      have h8r : B8 r := fun x hx => B8.right' h8 x (List.mem_cons_of_mem _ hx)
      have hm : (((l.length : Int)) == -1) = false := by rw [beq_eq_false_iff_ne]; omega
      have ih := split_lib hc n r (by simp at h; omega) h8r
      have hd : (u8L (l ++ c :: r)).drop (l.length + (u8L [c]).length) = u8L r := by
        rw [u8L_app, ← u8L_len l, List.drop_append]
        simp [u8L]
      have ht : (u8L (l ++ c :: r)).take (l.length + 0) = u8L l := by
        rw [u8L_app, Nat.add_zero, ← u8L_len l, List.take_left']
        rfl
      rw [h3, Lib.countFrom, e, hm]
      simp only [Bool.false_eq_true, if_false, Int.toNat_natCast]
      rw [hd, Nat.add_comm 1, Lib.splitK, e, hm]
      simp only [Bool.false_eq_true, if_false, Int.toNat_natCast]
      rw [hd, ht, ih, List.map_cons]
theorem splitB_spl {c : Int} (hc : 0 ≤ c ∧ c ≤ 255) {t : List Int} (h8 : B8 t) : Lib.splitB (bstr [c]) 0 (Lib.countB (bstr t) (bstr [c])) (bstr t) = (spl c t).map bstr := by
  have h1 := Lib.splitB_data (bstr [c]) 0 (Lib.countB (bstr t) (bstr [c])) (bstr t)
  have h2 := split_lib hc (t.length + 1) t (Nat.lt_succ_self _) h8
  have h3 : Lib.countB (bstr t) (bstr [c]) = Lib.countFrom (u8L [c]) (t.length + 1) (u8L t) := by
    unfold Lib.countB Lib.count
    rw [bstr_u8', bstr_u8', u8L_len]
  rw [bstr_u8', bstr_u8', h3, h2] at h1
  rw [h3]
  have h4 : ((spl c t).map bstr).map (·.data.toList) = (spl c t).map u8L := by
    rw [List.map_map]; apply List.map_congr_left; intro x _; exact bstr_u8' x
  rw [← h4] at h1
  have inj : ∀ (a b : List ByteArray), a.map (·.data.toList) = b.map (·.data.toList) → a = b := by
    intro a
    induction a with
    | nil => intro b h; cases b with | nil => rfl | cons _ _ => cases h
    | cons x a ih =>
      intro b h
      cases b with
      | nil => cases h
      | cons y b =>
        simp only [List.map_cons, List.cons.injEq] at h
        rw [ih b h.2]
        congr 1
        cases x; cases y
        congr 1
        exact Array.ext' h.1
  exact inj _ _ h1
theorem spl_ne (c : Int) (t : List Int) : spl c t ≠ [] := by
  rcases spl_view c t with ⟨_, h⟩ | ⟨l, r, _, _, h⟩ <;> rw [h] <;> exact List.cons_ne_nil _ _
theorem splA_8 (c : Int) : ∀ (t acc : List Int), B8 t → B8 acc → ∀ w ∈ splA c acc t, B8 w
  | [], acc, _, h2, w, hw => by
    have : w = acc := by simpa [splA] using hw
    rw [this]; exact h2
  | x :: t, acc, h1, h2, w, hw => by
    have h1' : B8 t := fun y hy => h1 y (List.mem_cons_of_mem _ hy)
    unfold splA at hw
    split at hw
    · rcases List.mem_cons.1 hw with rfl | hw
      · exact h2
      · exact splA_8 c t [] h1' (fun y hy => by cases hy) w hw
    · refine splA_8 c t _ h1' (fun y hy => ?_) w hw
      rcases List.mem_append.1 hy with hy | hy
      · exact h2 y hy
      · rw [List.mem_singleton.1 hy]; exact h1 x (List.mem_cons_self ..)
theorem spl_8 {c : Int} {t : List Int} (h : B8 t) : ∀ w ∈ spl c t, B8 w := splA_8 c t [] h (fun y hy => by cases hy)
theorem splA_wlen (c : Int) : ∀ (t acc : List Int), ∀ w ∈ splA c acc t, w.length ≤ acc.length + t.length
  | [], acc, w, hw => by
    have : w = acc := by simpa [splA] using hw
    rw [this]; simp
  | x :: t, acc, w, hw => by
    unfold splA at hw
    split at hw
    · rcases List.mem_cons.1 hw with rfl | hw
      · omega
      · have := splA_wlen c t [] w hw; simp at this ⊢; omega
    · have := splA_wlen c t _ w hw; simp at this ⊢; omega
theorem spl_wlen (c : Int) (t : List Int) : ∀ w ∈ spl c t, w.length ≤ t.length := fun w hw => by
  have := splA_wlen c t [] w hw; simpa using this
/- Numbers' texts. -/
theorem decT_0 (n : Nat) : decT n ≠ [] := by
  by_cases h : n < 10
  · rw [decT_small h]; exact List.cons_ne_nil _ _
  · rw [decT_big (by omega)]; exact List.append_ne_nil_of_right_ne_nil _ (List.cons_ne_nil _ _)
theorem decT_head : ∀ (n : Nat), 1 ≤ n → (decT n).head? ≠ some 48 := fun n => by
  induction n using Nat.strongRecOn with
  | _ n ih =>
    intro h1
    by_cases h : n < 10
    · rw [decT_small h]
      simp only [List.head?_cons, ne_eq, Option.some.injEq]
      omega
    · rw [decT_big (by omega), List.head?_append]
      have := ih (n / 10) (by omega) (by omega)
      have h2 : (decT (n / 10)).head?.isSome = true := by
        cases e : decT (n / 10) with
        | nil => exact absurd e (decT_0 _)
        | cons a l => rfl
      cases e : (decT (n / 10)).head? with
      | none => rw [e] at h2; cases h2
      | some a => rw [e] at this; exact this
def digN (acc : Nat) : List Int → Option Nat
  | [] => some acc
  | c :: r => if 48 ≤ c ∧ c ≤ 57 then digN (10 * acc + (c - 48).toNat) r else none
theorem digN_app : ∀ (a : List Int) (acc : Nat) (c : Int), digN acc (a ++ [c]) = (digN acc a).bind fun m => if 48 ≤ c ∧ c ≤ 57 then some (10 * m + (c - 48).toNat) else none
  | [], acc, c => by simp [digN]
  | x :: a, acc, c => by
    rw [List.cons_append, digN, digN]
    split
    · exact digN_app a _ c
    · rfl
/-- A number of at most ten digits, without a nought in front. -/
def numN (t : List Int) : Option Nat := if t = [] ∨ 10 < t.length ∨ (t.head? = some 48 ∧ 1 < t.length) then none else digN 0 t
theorem digN_dec (n : Nat) : digN 0 (decT n) = some n := by
  induction n using Nat.strongRecOn with
  | _ n ih =>
    by_cases h : n < 10
    · rw [decT_small h]
      simp [digN]
      omega
    · rw [decT_big (by omega), digN_app, ih (n / 10) (by omega)]
      simp only [Option.bind_some]
      rw [if_pos (by omega)]
      congr 1
      omega
theorem dec_digN : ∀ (k : Nat) (t : List Int) (n : Nat), t.length = k → t ≠ [] → ¬ (t.head? = some 48 ∧ 1 < t.length) → digN 0 t = some n → t = decT n := fun k => by
  induction k with
  | zero => intro t n h h0; exact absurd (List.length_eq_zero_iff.1 h) h0
  | succ k ih =>
    intro t n h h0 h1 h2
    have hd : t = t.dropLast ++ [t.getLast h0] := (List.dropLast_concat_getLast h0).symm
    generalize t.getLast h0 = c at hd
    generalize ha : t.dropLast = a at hd
    subst hd
    rw [digN_app] at h2
    cases hm : digN 0 a with
    | none => rw [hm] at h2; cases h2
    | some m =>
      rw [hm] at h2
      simp only [Option.bind_some] at h2
      split at h2
      case isFalse => cases h2
      rename_i hc
      have h3 := Option.some.inj h2
      by_cases hae : a = []
      · subst hae
        simp only [digN, Option.some.injEq] at hm
        subst hm
        have : n < 10 := by omega
        rw [decT_small this]
        simp; omega
      · have hal : a.length = k := by simpa using h
        have hhd : (a ++ [c]).head? = a.head? := by
          cases a with
          | nil => exact absurd rfl hae
          | cons x r => rfl
        have hl1 : 1 < (a ++ [c]).length := by
          cases a with
          | nil => exact absurd rfl hae
          | cons x r => simp
        have h48 : a.head? ≠ some 48 := fun e => h1 ⟨by rw [hhd, e], hl1⟩
        have e1 := ih a m hal hae (fun e => h48 e.1) hm
        have hm0 : m ≠ 0 := by
          rintro rfl
          rw [decT_small (by omega)] at e1
          rw [e1] at h48
          exact h48 rfl
        rw [decT_big (show 10 ≤ n by omega), show n / 10 = m by omega, ← e1]
        congr 2
        omega
theorem numN_iff {t : List Int} {n : Nat} (hn : n < 1000) : numN t = some n ↔ t = decT n := by
  unfold numN
  constructor
  · intro h
    split at h
    · cases h
    · rename_i hh
      simp only [not_or] at hh
      exact dec_digN _ t n rfl hh.1 hh.2.2 h
  · rintro rfl
    have hl := decT_len3 hn
    rw [if_neg]
    · exact digN_dec n
    · simp only [not_or]
      refine ⟨decT_0 n, by omega, fun h => ?_⟩
      by_cases h1 : 1 ≤ n
      · exact decT_head n h1 h.1
      · obtain rfl : n = 0 := by omega
        rw [decT_small (by omega)] at h
        exact absurd h.2 (by simp)
theorem u8_digit {d : Nat} (h : d < 10) : (UInt8.ofNat (48 + d)).toNat = 48 + d := by simp; omega
theorem parseM_step {acc d : Nat} {r : List UInt8} (h : d < 10) (ha : acc < 1000000) : Lib.parseUintM 18446744073709551615 acc (UInt8.ofNat (48 + d) :: r) = Lib.parseUintM 18446744073709551615 (acc * 10 + d) r := by
  rw [Lib.parseUintM, u8_digit h, if_pos (by omega), if_neg (by omega), if_neg (by omega), show 48 + d - 48 = d by omega]
theorem parse_dec {n : Nat} (h : n < 1000) : Lib.parseUintB 64 (Lib.decDigits n) = .ok n := by
  unfold Lib.parseUintB
  have h0 : Lib.decDigits n ≠ [] := fun e => decT_0 n (by unfold decT bytI; rw [e]; rfl)
  rw [if_neg h0]
  show Lib.parseUintM 18446744073709551615 0 _ = _
  by_cases h1 : n < 10
  · rw [dec_small h1, parseM_step h1 (by omega)]
    simp [Lib.parseUintM]
  · by_cases h2 : n < 100
    · rw [dec_two (by omega) h2, parseM_step (by omega) (by omega), parseM_step (by omega) (by omega)]
      simp only [Lib.parseUintM]
      congr 1; omega
    · rw [Lib.decDigits, dif_neg (by omega), dec_two (by omega) (by omega), List.cons_append, List.cons_append, List.nil_append, parseM_step (by omega) (by omega), parseM_step (by omega) (by omega), parseM_step (by omega) (by omega)]
      simp only [Lib.parseUintM]
      congr 1; omega
theorem dec_first (n : Nat) : ∃ d r, d < 10 ∧ Lib.decDigits n = UInt8.ofNat (48 + d) :: r := by
  induction n using Nat.strongRecOn with
  | _ n ih =>
    by_cases h : n < 10
    · exact ⟨n, [], h, dec_small h⟩
    · obtain ⟨d, r, h1, h2⟩ := ih (n / 10) (by omega)
      exact ⟨d, r ++ [UInt8.ofNat (48 + n % 10)], h1, by rw [Lib.decDigits, dif_neg h, h2]; rfl⟩
theorem parse_itoa {n : Int} (h0 : -1000 < n) (h1 : n < 1000) : Lib.parseIntB 64 (Lib.itoa n) = .ok n := by
  rcases Int.lt_or_le n 0 with h | h
  · obtain ⟨k, hk⟩ : ∃ k : Nat, n = -(k : Int) := ⟨n.natAbs, by omega⟩
    subst hk
    rw [Lib.itoa_neg k (by omega)]
    unfold Lib.parseIntB
    have e : (45 : UInt8).toNat = 45 := rfl
    simp only [e]
    rw [if_pos (.inr trivial), parse_dec (by omega)]
    simp only [not_true_eq_false, false_and, if_false, true_and, if_true]
    rw [if_neg (by omega)]
  · obtain ⟨k, rfl⟩ := Int.eq_ofNat_of_zero_le h
    rw [Lib.itoa_nonneg]
    obtain ⟨d, r, hd, e⟩ := dec_first k
    have hp := parse_dec (n := k) (by omega)
    rw [e] at hp ⊢
    unfold Lib.parseIntB
    simp only [u8_digit hd]
    rw [if_neg (by omega), hp]
    have hne : ¬ (48 + d = 45) := by omega
    simp only [hne, not_false_eq_true, true_and, false_and, if_false]
    rw [if_neg (by omega)]
/-- What readDecimal hands back: a number, and whether it is one in the span, told as it should. -/
def rdV (t : List Int) : Int := match Lib.parseIntB 64 (u8L t) with
  | .ok v => v
  | .range => Lib.intSat 64 (u8L t)
  | _ => 0
def rdOk (t : List Int) (lo hi : Int) : Bool := match Lib.parseIntB 64 (u8L t) with
  | .ok v => decide (lo ≤ v) && decide (v ≤ hi) && decide (decI v = t)
  | _ => false
theorem u8L_decI (n : Int) : u8L (decI n) = Lib.itoa n := by
  have := congrArg (·.data.toList) (bstr_decI n)
  simp only [bstr_u8'] at this
  exact this
theorem rd_dec {n lo hi : Int} (h0 : -1000 < n) (h1 : n < 1000) (h2 : lo ≤ n) (h3 : n ≤ hi) : rdOk (decI n) lo hi = true ∧ rdV (decI n) = n := by
  unfold rdOk rdV
  rw [u8L_decI, parse_itoa h0 h1]
  simp [h2, h3]
theorem rd_is {t : List Int} {lo hi : Int} (h : rdOk t lo hi = true) : lo ≤ rdV t ∧ rdV t ≤ hi ∧ t = decI (rdV t) := by
  unfold rdOk at h
  unfold rdV
  cases e : Lib.parseIntB 64 (u8L t) with
  | ok v =>
    rw [e] at h
    simp only [Bool.and_eq_true, decide_eq_true_eq] at h
    exact ⟨h.1.1, h.1.2, h.2.symm⟩
  | range => rw [e] at h; cases h
  | _ => rw [e] at h; cases h
end Go.Proofs.YtpjimhkblldhaaaDoor

