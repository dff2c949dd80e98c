/- Contracts of functions of the translated program, by the walk. -/
import Derived.Test.YtaekjojblkhfdaaGreatDoorDt5
import Derived.Lib.Split
import Derived.Lib.ParseIntBTie
import Derived.Shelf.Strings.Split
import Derived.Test.YtaekjojblkhfdaaGreatDoorProg
import Derived.KernelRfl
import Derived.Shelf.Strconv.ParseIntPublic10
import Derived.WalkKit
import Derived.Test.YtaekjojblkhfdaaGreatDoorLD
import Derived.Test.YtaekjojblkhfdaaGreatDoorLA
set_option linter.unusedVariables false
set_option linter.unusedSimpArgs false
set_option maxRecDepth 8000
set_option maxHeartbeats 16000000
namespace Go.Proofs.YtaekjojblkhfdaaGreatDoor
open Go Go.Sx
open Go.Proofs
def splA (by_ : Int) (acc : List Int) : List Int → List (List Int)
  | [] => [acc]
  | c :: r => if c = by_ then acc :: splA by_ [] r else splA by_ (acc ++ [c]) r
def spl (by_ : Int) (t : List Int) : List (List Int) := splA by_ [] t
theorem splA_acc (by_ : Int) : ∀ (t acc : List Int), (by_ ∉ t ∧ splA by_ acc t = [acc ++ t]) ∨ ∃ l r, t = l ++ by_ :: r ∧ by_ ∉ l ∧ splA by_ acc t = (acc ++ l) :: splA by_ [] r
  | [], acc => .inl ⟨by simp, by simp [splA]⟩
  | c :: t, acc => by
    have hs : splA by_ acc (c :: t) = if c = by_ then acc :: splA by_ [] t else splA by_ (acc ++ [c]) t := rfl
    rw [hs]
    by_cases h : c = by_
    · rw [if_pos h]
      exact .inr ⟨[], t, by simp [h], by simp, by simp⟩
    · rw [if_neg h]
      rcases splA_acc by_ t (acc ++ [c]) with ⟨h1, h2⟩ | ⟨l, r, h1, h2, h3⟩
      · exact .inl ⟨by simp [h1]; exact fun e => h e.symm, by rw [h2]; simp⟩
      · exact .inr ⟨c :: l, r, by simp [h1], by simp [h2]; exact fun e => h e.symm, by rw [h3]; simp⟩
theorem spl_view (by_ : Int) (t : List Int) : (by_ ∉ t ∧ spl by_ t = [t]) ∨ ∃ l r, t = l ++ by_ :: r ∧ by_ ∉ l ∧ spl by_ t = l :: spl by_ r := by
  have := splA_acc by_ t []
  simpa [spl] using this
theorem spl_cons {by_ : Int} {l r : List Int} (h : by_ ∉ l) : spl by_ (l ++ by_ :: r) = l :: spl by_ r := by
  have key : ∀ (l acc : List Int), by_ ∉ l → splA by_ acc (l ++ by_ :: r) = (acc ++ l) :: splA by_ [] r := by
    intro l
    induction l with
    | nil => intro acc _; simp [splA]
    | cons c l ih =>
      intro acc h
      simp only [List.mem_cons, not_or] at h
      rw [List.cons_append, splA, if_neg (fun e => h.1 e.symm), ih _ h.2]
      simp
  have := key l [] h
  simpa [spl] using this
theorem spl_len_le (by_ : Int) : ∀ (t acc : List Int), (splA by_ acc t).length ≤ t.length + 1
  | [], acc => by simp [splA]
  | c :: t, acc => by
    unfold splA
    split
    · have := spl_len_le by_ t []; simp; omega
    · have := spl_len_le by_ t (acc ++ [c]); simp; omega
theorem bstr_u8' (l : List Int) : (bstr l).data.toList = u8L l := by simp [bstr, u8L]
theorem u8_inj {x y : Int} (hx : 0 ≤ x ∧ x ≤ 255) (hy : 0 ≤ y ∧ y ≤ 255) (h : UInt8.ofNat x.toNat = UInt8.ofNat y.toNat) : x = y := by
  have := congrArg UInt8.toNat h
  simp at this
  omega
theorem u8L_cons (x : Int) (l : List Int) : u8L (x :: l) = UInt8.ofNat x.toNat :: u8L l := rfl
theorem u8L_app (a b : List Int) : u8L (a ++ b) = u8L a ++ u8L b := by simp [u8L]
theorem u8L_len (l : List Int) : (u8L l).length = l.length := by simp [u8L]
theorem index_miss {c : Int} (hc : 0 ≤ c ∧ c ≤ 255) : ∀ {t : List Int}, B8 t → c ∉ t → Lib.index (u8L t) (u8L [c]) = -1
  | [], _, _ => rfl
  | x :: t, h8, h => by
    have h1 : x ≠ c := fun e => h (by rw [e]; exact List.mem_cons_self ..)
    have ih := index_miss hc (fun y hy => h8 y (List.mem_cons_of_mem _ hy)) (fun e => h (List.mem_cons_of_mem _ e))
    have h2 : (u8L [c]).isPrefixOf (u8L (x :: t)) = false := by
      rw [u8L_cons, u8L_cons]
      simp only [List.isPrefixOf, Bool.and_eq_false_iff]
      left
      rw [beq_eq_false_iff_ne]
      exact fun e => h1 (u8_inj (h8 x (List.mem_cons_self ..)) hc e.symm)
    rw [u8L_cons x t] at h2 ⊢
    rw [Lib.index, h2, ih]
    rfl
theorem index_hit' {c : Int} (hc : 0 ≤ c ∧ c ≤ 255) {r : List Int} : ∀ {l : List Int}, B8 l → c ∉ l → Lib.index (u8L (l ++ c :: r)) (u8L [c]) = l.length
  | [], _, _ => by
    show Lib.index (u8L (c :: r)) (u8L [c]) = 0
    rw [u8L_cons c r, Lib.index, if_pos]
    simp [u8L, List.isPrefixOf]
  | x :: l, h8, h => by
    have h1 : x ≠ c := fun e => h (by rw [e]; exact List.mem_cons_self ..)
    have ih := index_hit' hc (r := r) (fun y hy => h8 y (List.mem_cons_of_mem _ hy)) (fun e => h (List.mem_cons_of_mem _ e))
    have h2 : (u8L [c]).isPrefixOf (u8L (x :: (l ++ c :: r))) = false := by
      rw [u8L_cons, u8L_cons]
      simp only [List.isPrefixOf, Bool.and_eq_false_iff]
      left
      rw [beq_eq_false_iff_ne]
      exact fun e => h1 (u8_inj (h8 x (List.mem_cons_self ..)) hc e.symm)
    rw [List.cons_append, u8L_cons x] at *
    rw [Lib.index, h2, ih]
    have h3 : (((l.length : Int)) == -1) = false := by rw [beq_eq_false_iff_ne]; omega
    simp only [Bool.false_eq_true, if_false, h3, List.length_cons]
    omega
theorem B8.left' {a b : List Int} (h : B8 (a ++ b)) : B8 a := fun x hx => h x (List.mem_append_left _ hx)
theorem B8.right' {a b : List Int} (h : B8 (a ++ b)) : B8 b := fun x hx => h x (List.mem_append_right _ hx)
theorem split_lib {c : Int} (hc : 0 ≤ c ∧ c ≤ 255) : ∀ (n : Nat) (t : List Int), t.length < n → B8 t → Lib.splitK (u8L [c]) 0 (Lib.countFrom (u8L [c]) n (u8L t)) (u8L t) = (spl c t).map u8L
  | 0, t, h, _ => absurd h (Nat.not_lt_zero _)
  | n + 1, t, h, h8 => by
    rcases spl_view c t with ⟨h1, h2⟩ | ⟨l, r, h1, h2, h3⟩
    · have e := index_miss hc h8 h1
      rw [h2, Lib.countFrom, e]
      rfl
    · subst h1
      have e := index_hit' hc (r := r) (B8.left' h8) h2
      have h8r : B8 r := fun x hx => B8.right' h8 x (List.mem_cons_of_mem _ hx)
      have hm : (((l.length : Int)) == -1) = false := by rw [beq_eq_false_iff_ne]; omega
      have ih := split_lib hc n r (by simp at h; omega) h8r
      have hd : (u8L (l ++ c :: r)).drop (l.length + (u8L [c]).length) = u8L r := by
        rw [u8L_app, ← u8L_len l, List.drop_append]
        simp [u8L]
      have ht : (u8L (l ++ c :: r)).take (l.length + 0) = u8L l := by
        rw [u8L_app, Nat.add_zero, ← u8L_len l, List.take_left']
        rfl
      rw [h3, Lib.countFrom, e, hm]
      simp only [Bool.false_eq_true, if_false, Int.toNat_natCast]
      rw [hd, Nat.add_comm 1, Lib.splitK, e, hm]
      simp only [Bool.false_eq_true, if_false, Int.toNat_natCast]
      rw [hd, ht, ih, List.map_cons]
theorem splitB_spl {c : Int} (hc : 0 ≤ c ∧ c ≤ 255) {t : List Int} (h8 : B8 t) : Lib.splitB (bstr [c]) 0 (Lib.countB (bstr t) (bstr [c])) (bstr t) = (spl c t).map bstr := by
  have h1 := Lib.splitB_data (bstr [c]) 0 (Lib.countB (bstr t) (bstr [c])) (bstr t)
  have h2 := split_lib hc (t.length + 1) t (Nat.lt_succ_self _) h8
  have h3 : Lib.countB (bstr t) (bstr [c]) = Lib.countFrom (u8L [c]) (t.length + 1) (u8L t) := by
    unfold Lib.countB Lib.count
    rw [bstr_u8', bstr_u8', u8L_len]
  rw [bstr_u8', bstr_u8', h3, h2] at h1
  rw [h3]
  have h4 : ((spl c t).map bstr).map (·.data.toList) = (spl c t).map u8L := by
    rw [List.map_map]; apply List.map_congr_left; intro x _; exact bstr_u8' x
  rw [← h4] at h1
  have inj : ∀ (a b : List ByteArray), a.map (·.data.toList) = b.map (·.data.toList) → a = b := by
    intro a
    induction a with
    | nil => intro b h; cases b with | nil => rfl | cons _ _ => cases h
    | cons x a ih =>
      intro b h
      cases b with
      | nil => cases h
      | cons y b =>
        simp only [List.map_cons, List.cons.injEq] at h
        rw [ih b h.2]
        congr 1
        cases x; cases y
        congr 1
        exact Array.ext' h.1
  exact inj _ _ h1
theorem spl_ne (c : Int) (t : List Int) : spl c t ≠ [] := by
  rcases spl_view c t with ⟨_, h⟩ | ⟨l, r, _, _, h⟩ <;> rw [h] <;> exact List.cons_ne_nil _ _
theorem splA_8 (c : Int) : ∀ (t acc : List Int), B8 t → B8 acc → ∀ w ∈ splA c acc t, B8 w
  | [], acc, _, h2, w, hw => by
    have : w = acc := by simpa [splA] using hw
    rw [this]; exact h2
  | x :: t, acc, h1, h2, w, hw => by
    have h1' : B8 t := fun y hy => h1 y (List.mem_cons_of_mem _ hy)
    unfold splA at hw
    split at hw
    · rcases List.mem_cons.1 hw with rfl | hw
      · exact h2
      · exact splA_8 c t [] h1' (fun y hy => by cases hy) w hw
    · refine splA_8 c t _ h1' (fun y hy => ?_) w hw
      rcases List.mem_append.1 hy with hy | hy
      · exact h2 y hy
      · rw [List.mem_singleton.1 hy]; exact h1 x (List.mem_cons_self ..)
theorem spl_8 {c : Int} {t : List Int} (h : B8 t) : ∀ w ∈ spl c t, B8 w := splA_8 c t [] h (fun y hy => by cases hy)
theorem splA_wlen (c : Int) : ∀ (t acc : List Int), ∀ w ∈ splA c acc t, w.length ≤ acc.length + t.length
  | [], acc, w, hw => by
    have : w = acc := by simpa [splA] using hw
    rw [this]; simp
  | x :: t, acc, w, hw => by
    unfold splA at hw
    split at hw
    · rcases List.mem_cons.1 hw with rfl | hw
      · omega
      · have := splA_wlen c t [] w hw; simp at this ⊢; omega
    · have := splA_wlen c t _ w hw; simp at this ⊢; omega
theorem spl_wlen (c : Int) (t : List Int) : ∀ w ∈ spl c t, w.length ≤ t.length := fun w hw => by
  have := splA_wlen c t [] w hw; simpa using this
/- Numbers' texts. -/
theorem decT_0 (n : Nat) : decT n ≠ [] := by
  by_cases h : n < 10
  · rw [decT_small h]; exact List.cons_ne_nil _ _
  · rw [decT_big (by omega)]; exact List.append_ne_nil_of_right_ne_nil _ (List.cons_ne_nil _ _)
theorem decT_head : ∀ (n : Nat), 1 ≤ n → (decT n).head? ≠ some 48 := fun n => by
  induction n using Nat.strongRecOn with
  | _ n ih =>
    intro h1
    by_cases h : n < 10
    · rw [decT_small h]
      simp only [List.head?_cons, ne_eq, Option.some.injEq]
      omega
    · rw [decT_big (by omega), List.head?_append]
      have := ih (n / 10) (by omega) (by omega)
      have h2 : (decT (n / 10)).head?.isSome = true := by
        cases e : decT (n / 10) with
        | nil => exact absurd e (decT_0 _)
        | cons a l => rfl
      cases e : (decT (n / 10)).head? with
      | none => rw [e] at h2; cases h2
      | some a => rw [e] at this; exact this
def digN (acc : Nat) : List Int → Option Nat
  | [] => some acc
  | c :: r => if 48 ≤ c ∧ c ≤ 57 then digN (10 * acc + (c - 48).toNat) r else none
theorem digN_app : ∀ (a : List Int) (acc : Nat) (c : Int), digN acc (a ++ [c]) = (digN acc a).bind fun m => if 48 ≤ c ∧ c ≤ 57 then some (10 * m + (c - 48).toNat) else none
  | [], acc, c => by simp [digN]
  | x :: a, acc, c => by
    rw [List.cons_append, digN, digN]
    split
    · exact digN_app a _ c
    · rfl
def numN (t : List Int) : Option Nat := if t = [] ∨ 10 < t.length ∨ (t.head? = some 48 ∧ 1 < t.length) then none else digN 0 t
theorem digN_dec (n : Nat) : digN 0 (decT n) = some n := by
  induction n using Nat.strongRecOn with
  | _ n ih =>
    by_cases h : n < 10
    · rw [decT_small h]
      simp [digN]
      omega
    · rw [decT_big (by omega), digN_app, ih (n / 10) (by omega)]
      simp only [Option.bind_some]
      rw [if_pos (by omega)]
      congr 1
      omega
theorem dec_digN : ∀ (k : Nat) (t : List Int) (n : Nat), t.length = k → t ≠ [] → ¬ (t.head? = some 48 ∧ 1 < t.length) → digN 0 t = some n → t = decT n := fun k => by
  induction k with
  | zero => intro t n h h0; exact absurd (List.length_eq_zero_iff.1 h) h0
  | succ k ih =>
    intro t n h h0 h1 h2
    have hd : t = t.dropLast ++ [t.getLast h0] := (List.dropLast_concat_getLast h0).symm
    generalize t.getLast h0 = c at hd
    generalize ha : t.dropLast = a at hd
    subst hd
    rw [digN_app] at h2
    cases hm : digN 0 a with
    | none => rw [hm] at h2; cases h2
    | some m =>
      rw [hm] at h2
      simp only [Option.bind_some] at h2
      split at h2
      case isFalse => cases h2
      rename_i hc
      have h3 := Option.some.inj h2
      by_cases hae : a = []
      · subst hae
        simp only [digN, Option.some.injEq] at hm
        subst hm
        have : n < 10 := by omega
        rw [decT_small this]
        simp; omega
      · have hal : a.length = k := by simpa using h
        have hhd : (a ++ [c]).head? = a.head? := by
          cases a with
          | nil => exact absurd rfl hae
          | cons x r => rfl
        have hl1 : 1 < (a ++ [c]).length := by
          cases a with
          | nil => exact absurd rfl hae
          | cons x r => simp
        have h48 : a.head? ≠ some 48 := fun e => h1 ⟨by rw [hhd, e], hl1⟩
        have e1 := ih a m hal hae (fun e => h48 e.1) hm
        have hm0 : m ≠ 0 := by
          rintro rfl
          rw [decT_small (by omega)] at e1
          rw [e1] at h48
          exact h48 rfl
        rw [decT_big (show 10 ≤ n by omega), show n / 10 = m by omega, ← e1]
        congr 2
        omega
theorem numN_iff {t : List Int} {n : Nat} (hn : n < 1000) : numN t = some n ↔ t = decT n := by
  unfold numN
  constructor
  · intro h
    split at h
    · cases h
    · rename_i hh
      simp only [not_or] at hh
      exact dec_digN _ t n rfl hh.1 hh.2.2 h
  · rintro rfl
    have hl := decT_len3 hn
    rw [if_neg]
    · exact digN_dec n
    · simp only [not_or]
      refine ⟨decT_0 n, by omega, fun h => ?_⟩
      by_cases h1 : 1 ≤ n
      · exact decT_head n h1 h.1
      · obtain rfl : n = 0 := by omega
        rw [decT_small (by omega)] at h
        exact absurd h.2 (by simp)
theorem u8_digit {d : Nat} (h : d < 10) : (UInt8.ofNat (48 + d)).toNat = 48 + d := by simp; omega
theorem parseM_step {acc d : Nat} {r : List UInt8} (h : d < 10) (ha : acc < 1000000) : Lib.parseUintM 18446744073709551615 acc (UInt8.ofNat (48 + d) :: r) = Lib.parseUintM 18446744073709551615 (acc * 10 + d) r := by
  rw [Lib.parseUintM, u8_digit h, if_pos (by omega), if_neg (by omega), if_neg (by omega), show 48 + d - 48 = d by omega]
theorem parse_dec {n : Nat} (h : n < 1000) : Lib.parseUintB 64 (Lib.decDigits n) = .ok n := by
  unfold Lib.parseUintB
  have h0 : Lib.decDigits n ≠ [] := fun e => decT_0 n (by unfold decT bytI; rw [e]; rfl)
  rw [if_neg h0]
  show Lib.parseUintM 18446744073709551615 0 _ = _
  by_cases h1 : n < 10
  · rw [dec_small h1, parseM_step h1 (by omega)]
    simp [Lib.parseUintM]
  · by_cases h2 : n < 100
    · rw [dec_two (by omega) h2, parseM_step (by omega) (by omega), parseM_step (by omega) (by omega)]
      simp only [Lib.parseUintM]
      congr 1; omega
    · rw [Lib.decDigits, dif_neg (by omega), dec_two (by omega) (by omega), List.cons_append, List.cons_append, List.nil_append, parseM_step (by omega) (by omega), parseM_step (by omega) (by omega), parseM_step (by omega) (by omega)]
      simp only [Lib.parseUintM]
      congr 1; omega
theorem dec_first (n : Nat) : ∃ d r, d < 10 ∧ Lib.decDigits n = UInt8.ofNat (48 + d) :: r := by
  induction n using Nat.strongRecOn with
  | _ n ih =>
    by_cases h : n < 10
    · exact ⟨n, [], h, dec_small h⟩
    · obtain ⟨d, r, h1, h2⟩ := ih (n / 10) (by omega)
      exact ⟨d, r ++ [UInt8.ofNat (48 + n % 10)], h1, by rw [Lib.decDigits, dif_neg h, h2]; rfl⟩
theorem parse_itoa {n : Int} (h0 : -1000 < n) (h1 : n < 1000) : Lib.parseIntB 64 (Lib.itoa n) = .ok n := by
  rcases Int.lt_or_le n 0 with h | h
  · obtain ⟨k, hk⟩ : ∃ k : Nat, n = -(k : Int) := ⟨n.natAbs, by omega⟩
    subst hk
    rw [Lib.itoa_neg k (by omega)]
    unfold Lib.parseIntB
    have e : (45 : UInt8).toNat = 45 := rfl
    simp only [e]
    rw [if_pos (.inr trivial), parse_dec (by omega)]
    simp only [not_true_eq_false, false_and, if_false, true_and, if_true]
    rw [if_neg (by omega)]
  · obtain ⟨k, rfl⟩ := Int.eq_ofNat_of_zero_le h
    rw [Lib.itoa_nonneg]
    obtain ⟨d, r, hd, e⟩ := dec_first k
    have hp := parse_dec (n := k) (by omega)
    rw [e] at hp ⊢
    unfold Lib.parseIntB
    simp only [u8_digit hd]
    rw [if_neg (by omega), hp]
    have hne : ¬ (48 + d = 45) := by omega
    simp only [hne, not_false_eq_true, true_and, false_and, if_false]
    rw [if_neg (by omega)]
def rdV (t : List Int) : Int := match Lib.parseIntB 64 (u8L t) with
  | .ok v => v
  | .range => Lib.intSat 64 (u8L t)
  | _ => 0
def rdOk (t : List Int) (lo hi : Int) : Bool := match Lib.parseIntB 64 (u8L t) with
  | .ok v => decide (lo ≤ v) && decide (v ≤ hi) && decide (decI v = t)
  | _ => false
theorem u8L_decI (n : Int) : u8L (decI n) = Lib.itoa n := by
  have := congrArg (·.data.toList) (bstr_decI n)
  simp only [bstr_u8'] at this
  exact this
theorem rd_dec {n lo hi : Int} (h0 : -1000 < n) (h1 : n < 1000) (h2 : lo ≤ n) (h3 : n ≤ hi) : rdOk (decI n) lo hi = true ∧ rdV (decI n) = n := by
  unfold rdOk rdV
  rw [u8L_decI, parse_itoa h0 h1]
  simp [h2, h3]
theorem rd_is {t : List Int} {lo hi : Int} (h : rdOk t lo hi = true) : lo ≤ rdV t ∧ rdV t ≤ hi ∧ t = decI (rdV t) := by
  unfold rdOk at h
  unfold rdV
  cases e : Lib.parseIntB 64 (u8L t) with
  | ok v =>
    rw [e] at h
    simp only [Bool.and_eq_true, decide_eq_true_eq] at h
    exact ⟨h.1.1, h.1.2, h.2.symm⟩
  | range => rw [e] at h; cases h
  | _ => rw [e] at h; cases h
end Go.Proofs.YtaekjojblkhfdaaGreatDoor
namespace Go.Proofs.YtaekjojblkhfdaaGreatDoor
open Go Go.Shelf
def lays146_ren : Go.Shelf.Ren := ⟨fun | 146 => 77 | 221 => 100 | 268 => 118 | 138 => 119 | 143 => 120 | 195 => 138 | 197 => 139 | 218 => 140 | 219 => 141 | 260 => 164 | 217 => 165 | 225 => 166 | 224 => 167 | 267 => 168 | 266 => 178 | 314 => 179 | n => n, fun | 9 => 9 | 31 => 56 | 3 => 3 | 4 => 4 | 0 => 0 | 105 => 170 | 21 => 21 | 5 => 5 | 46 => 100 | 119 => 207 | 139 => 210 | 138 => 209 | 146 => 211 | 51 => 182 | n => n, fun | 1 => 3 | 3 => 4 | 4 => 5 | n => n⟩
theorem lays146 : Go.Proofs.Lays.n146 Tryz.prog lays146_ren := {
  mixed := by kernel_rfl
  f138 := Tryz.func119.trans (congrArg some (by kernel_rfl))
  f143 := Tryz.func120.trans (congrArg some (by kernel_rfl))
  f146 := Tryz.func77.trans (congrArg some (by kernel_rfl))
  f195 := Tryz.func138.trans (congrArg some (by kernel_rfl))
  f197 := Tryz.func139.trans (congrArg some (by kernel_rfl))
  f217 := Tryz.func165.trans (congrArg some (by kernel_rfl))
  f218 := Tryz.func140.trans (congrArg some (by kernel_rfl))
  f219 := Tryz.func141.trans (congrArg some (by kernel_rfl))
  f221 := Tryz.func100.trans (congrArg some (by kernel_rfl))
  f224 := Tryz.func167.trans (congrArg some (by kernel_rfl))
  f225 := Tryz.func166.trans (congrArg some (by kernel_rfl))
  f260 := Tryz.func164.trans (congrArg some (by kernel_rfl))
  f266 := Tryz.func178.trans (congrArg some (by kernel_rfl))
  f267 := Tryz.func168.trans (congrArg some (by kernel_rfl))
  f268 := Tryz.func118.trans (congrArg some (by kernel_rfl))
  f314 := Tryz.func179.trans (congrArg some (by kernel_rfl))
  t0 := Tryz.underlying0
  a0 := Tryz.isAgg0
  z0 := Tryz.sizeOf0
  v0 := Tryz.zeroValue0
  t3 := Tryz.underlying3
  a3 := Tryz.isAgg3
  z3 := Tryz.sizeOf3
  v3 := Tryz.zeroValue3
  t4 := Tryz.underlying4
  a4 := Tryz.isAgg4
  z4 := Tryz.sizeOf4
  v4 := Tryz.zeroValue4
  t5 := Tryz.underlying5
  a5 := Tryz.isAgg5
  z5 := Tryz.sizeOf5
  v5 := Tryz.zeroValue5
  t9 := Tryz.underlying9
  a9 := Tryz.isAgg9
  z9 := Tryz.sizeOf9
  v9 := Tryz.zeroValue9
  t21 := Tryz.underlying21
  a21 := Tryz.isAgg21
  z21 := Tryz.sizeOf21
  v21 := Tryz.zeroValue21
  t31 := Tryz.underlying56
  a31 := Tryz.isAgg56
  z31 := Tryz.sizeOf56
  v31 := Tryz.zeroValue56
  t46 := Tryz.underlying100
  a46 := Tryz.isAgg100
  z46 := Tryz.sizeOf100
  v46 := Tryz.zeroValue100
  t51 := Tryz.underlying182
  a51 := Tryz.isAgg182
  z51 := Tryz.sizeOf182
  v51 := Tryz.zeroValue182
  t105 := Tryz.underlying170
  a105 := Tryz.isAgg170
  z105 := Tryz.sizeOf170
  v105 := Tryz.zeroValue170
  t119 := Tryz.underlying207
  a119 := Tryz.isAgg207
  z119 := Tryz.sizeOf207
  t138 := Tryz.underlying209
  a138 := Tryz.isAgg209
  z138 := Tryz.sizeOf209
  v138 := Tryz.zeroValue209
  t139 := Tryz.underlying210
  a139 := Tryz.isAgg210
  z139 := Tryz.sizeOf210
  v139 := Tryz.zeroValue210
  t146 := Tryz.underlying211
  a146 := Tryz.isAgg211
  z146 := Tryz.sizeOf211
  v146 := Tryz.zeroValue211
  g1 := by kernel_rfl
  g3 := by kernel_rfl
  g4 := by kernel_rfl }
end Go.Proofs.YtaekjojblkhfdaaGreatDoor
namespace Go.Proofs.YtaekjojblkhfdaaGreatDoor
open Go Go.Shelf
def laysC174_ren : Go.Shelf.Ren := ⟨fun | 174 => 78 | 247 => 101 | 245 => 102 | 287 => 121 | 279 => 122 | 280 => 123 | 281 => 124 | 282 => 125 | 321 => 142 | 322 => 143 | 316 => 144 | 171 => 146 | 205 => 145 | 243 => 169 | 246 => 103 | 283 => 126 | 284 => 127 | 285 => 128 | 286 => 129 | 129 => 148 | 317 => 147 | 318 => 149 | 319 => 150 | 320 => 151 | 337 => 170 | 338 => 171 | n => n, fun | 9 => 9 | 3 => 3 | 2 => 2 | 75 => 106 | 85 => 107 | 4 => 4 | 167 => 148 | 5 => 5 | 53 => 101 | 175 => 149 | 46 => 100 | 168 => 151 | 37 => 22 | 0 => 0 | 210 => 177 | 21 => 21 | 127 => 135 | 145 => 200 | 143 => 198 | 171 => 155 | 173 => 158 | 212 => 181 | 51 => 182 | 20 => 20 | 213 => 183 | 232 => 213 | 233 => 214 | 80 => 116 | n => n, fun | 15 => 0 | 16 => 1 | 17 => 2 | 18 => 6 | 19 => 7 | n => n⟩
theorem laysC174 : Go.Proofs.LaysC.n174 Tryz.prog laysC174_ren := {
  mixed := by kernel_rfl
  f129 := Tryz.func148.trans (congrArg some (by kernel_rfl))
  f171 := Tryz.func146.trans (congrArg some (by kernel_rfl))
  f174 := Tryz.func78.trans (congrArg some (by kernel_rfl))
  f205 := Tryz.func145.trans (congrArg some (by kernel_rfl))
  f243 := Tryz.func169.trans (congrArg some (by kernel_rfl))
  f245 := Tryz.func102.trans (congrArg some (by kernel_rfl))
  f246 := Tryz.func103.trans (congrArg some (by kernel_rfl))
  f247 := Tryz.func101.trans (congrArg some (by kernel_rfl))
  f279 := Tryz.func122.trans (congrArg some (by kernel_rfl))
  f280 := Tryz.func123.trans (congrArg some (by kernel_rfl))
  f281 := Tryz.func124.trans (congrArg some (by kernel_rfl))
  f282 := Tryz.func125.trans (congrArg some (by kernel_rfl))
  f283 := Tryz.func126.trans (congrArg some (by kernel_rfl))
  f284 := Tryz.func127.trans (congrArg some (by kernel_rfl))
  f285 := Tryz.func128.trans (congrArg some (by kernel_rfl))
  f286 := Tryz.func129.trans (congrArg some (by kernel_rfl))
  f287 := Tryz.func121.trans (congrArg some (by kernel_rfl))
  f316 := Tryz.func144.trans (congrArg some (by kernel_rfl))
  f317 := Tryz.func147.trans (congrArg some (by kernel_rfl))
  f318 := Tryz.func149.trans (congrArg some (by kernel_rfl))
  f319 := Tryz.func150.trans (congrArg some (by kernel_rfl))
  f320 := Tryz.func151.trans (congrArg some (by kernel_rfl))
  f321 := Tryz.func142.trans (congrArg some (by kernel_rfl))
  f322 := Tryz.func143.trans (congrArg some (by kernel_rfl))
  f337 := Tryz.func170.trans (congrArg some (by kernel_rfl))
  f338 := Tryz.func171.trans (congrArg some (by kernel_rfl))
  t0 := Tryz.underlying0
  a0 := Tryz.isAgg0
  z0 := Tryz.sizeOf0
  v0 := Tryz.zeroValue0
  t2 := Tryz.underlying2
  a2 := Tryz.isAgg2
  z2 := Tryz.sizeOf2
  v2 := Tryz.zeroValue2
  t3 := Tryz.underlying3
  a3 := Tryz.isAgg3
  z3 := Tryz.sizeOf3
  v3 := Tryz.zeroValue3
  t4 := Tryz.underlying4
  a4 := Tryz.isAgg4
  z4 := Tryz.sizeOf4
  v4 := Tryz.zeroValue4
  t5 := Tryz.underlying5
  a5 := Tryz.isAgg5
  z5 := Tryz.sizeOf5
  v5 := Tryz.zeroValue5
  t9 := Tryz.underlying9
  a9 := Tryz.isAgg9
  z9 := Tryz.sizeOf9
  v9 := Tryz.zeroValue9
  t20 := Tryz.underlying20
  a20 := Tryz.isAgg20
  z20 := Tryz.sizeOf20
  v20 := Tryz.zeroValue20
  t21 := Tryz.underlying21
  a21 := Tryz.isAgg21
  z21 := Tryz.sizeOf21
  v21 := Tryz.zeroValue21
  t37 := Tryz.underlying22
  a37 := Tryz.isAgg22
  z37 := Tryz.sizeOf22
  v37 := Tryz.zeroValue22
  t46 := Tryz.underlying100
  a46 := Tryz.isAgg100
  z46 := Tryz.sizeOf100
  v46 := Tryz.zeroValue100
  t51 := Tryz.underlying182
  a51 := Tryz.isAgg182
  z51 := Tryz.sizeOf182
  v51 := Tryz.zeroValue182
  t53 := Tryz.underlying101
  a53 := Tryz.isAgg101
  z53 := Tryz.sizeOf101
  v53 := Tryz.zeroValue101
  t75 := Tryz.underlying106
  a75 := Tryz.isAgg106
  z75 := Tryz.sizeOf106
  v75 := Tryz.zeroValue106
  t85 := Tryz.underlying107
  a85 := Tryz.isAgg107
  z85 := Tryz.sizeOf107
  v85 := Tryz.zeroValue107
  t127 := Tryz.underlying135
  a127 := Tryz.isAgg135
  z127 := Tryz.sizeOf135
  v127 := Tryz.zeroValue135
  t143 := Tryz.underlying198
  a143 := Tryz.isAgg198
  z143 := Tryz.sizeOf198
  v143 := Tryz.zeroValue198
  t145 := Tryz.underlying200
  a145 := Tryz.isAgg200
  z145 := Tryz.sizeOf200
  v145 := Tryz.zeroValue200
  t167 := Tryz.underlying148
  a167 := Tryz.isAgg148
  z167 := Tryz.sizeOf148
  v167 := Tryz.zeroValue148
  t168 := Tryz.underlying151
  a168 := Tryz.isAgg151
  z168 := Tryz.sizeOf151
  v168 := Tryz.zeroValue151
  t171 := Tryz.underlying155
  a171 := Tryz.isAgg155
  z171 := Tryz.sizeOf155
  v171 := Tryz.zeroValue155
  t173 := Tryz.underlying158
  a173 := Tryz.isAgg158
  z173 := Tryz.sizeOf158
  v173 := Tryz.zeroValue158
  t175 := Tryz.underlying149
  a175 := Tryz.isAgg149
  z175 := Tryz.sizeOf149
  v175 := Tryz.zeroValue149
  t210 := Tryz.underlying177
  a210 := Tryz.isAgg177
  z210 := Tryz.sizeOf177
  v210 := Tryz.zeroValue177
  t212 := Tryz.underlying181
  a212 := Tryz.isAgg181
  z212 := Tryz.sizeOf181
  v212 := Tryz.zeroValue181
  t213 := Tryz.underlying183
  a213 := Tryz.isAgg183
  z213 := Tryz.sizeOf183
  t232 := Tryz.underlying213
  a232 := Tryz.isAgg213
  z232 := Tryz.sizeOf213
  v232 := Tryz.zeroValue213
  t233 := Tryz.underlying214
  a233 := Tryz.isAgg214
  z233 := Tryz.sizeOf214
  v233 := Tryz.zeroValue214
  g15 := by kernel_rfl
  g16 := by kernel_rfl
  g17 := by kernel_rfl
  g18 := by kernel_rfl
  g19 := by kernel_rfl
  t80 := Tryz.underlying116
  a80 := Tryz.isAgg116
  z80 := Tryz.sizeOf116
  v80 := Tryz.zeroValue116
  i0 := by kernel_rfl
  i2 := by kernel_rfl
  i3 := by kernel_rfl
  i4 := by kernel_rfl
  i5 := by kernel_rfl
  i9 := by kernel_rfl
  i20 := by kernel_rfl
  i21 := by kernel_rfl
  i37 := by kernel_rfl
  i46 := by kernel_rfl
  i51 := by kernel_rfl
  i53 := by kernel_rfl
  i75 := by kernel_rfl
  i80 := by kernel_rfl
  i85 := by kernel_rfl
  i127 := by kernel_rfl
  i143 := by kernel_rfl
  i145 := by kernel_rfl
  i167 := by kernel_rfl
  i168 := by kernel_rfl
  i171 := by kernel_rfl
  i173 := by kernel_rfl
  i175 := by kernel_rfl
  i210 := by kernel_rfl
  i212 := by kernel_rfl
  i232 := by kernel_rfl
  i233 := by kernel_rfl
  m15 := by kernel_rfl
  m16 := by kernel_rfl
  m17 := by kernel_rfl
  m18 := by kernel_rfl
  m19 := by kernel_rfl
  c0 := by kernel_rfl
  c2 := by kernel_rfl
  c3 := by kernel_rfl
  c4 := by kernel_rfl
  c5 := by kernel_rfl
  c9 := by kernel_rfl
  c20 := by kernel_rfl
  c21 := by kernel_rfl
  c37 := by kernel_rfl
  c46 := by kernel_rfl
  c51 := by kernel_rfl
  c53 := by kernel_rfl
  c75 := by kernel_rfl
  c80 := by kernel_rfl
  c85 := by kernel_rfl
  c127 := by kernel_rfl
  c143 := by kernel_rfl
  c145 := by kernel_rfl
  c167 := by kernel_rfl
  c168 := by kernel_rfl
  c171 := by kernel_rfl
  c173 := by kernel_rfl
  c175 := by kernel_rfl
  c210 := by kernel_rfl
  c212 := by kernel_rfl
  c213 := by kernel_rfl
  c232 := by kernel_rfl
  c233 := by kernel_rfl }
end Go.Proofs.YtaekjojblkhfdaaGreatDoor
namespace Go.Proofs.YtaekjojblkhfdaaGreatDoor
open Go Go.Sx
open Go.Proofs Go.Shelf Go.RowKit
theorem inRangeK (n lo hi : Int) (w : World) : Calls Tryz.prog 35 #[.int .i64 n, .int .i64 lo, .int .i64 hi] w fun e w' => e = .returned (.bool (decide (lo ≤ n) && decide (n ≤ hi))) ∧ w' = w := by
  go_enter Tryz.func35, Tryz.ntmps35
  by_cases h1 : lo ≤ n
  · have d1 : decide (lo ≤ n) = true := decide_eq_true h1
    by_cases h2 : n ≤ hi
    · have d2 : decide (n ≤ hi) = true := decide_eq_true h2
      rw [d1, d2]
      go_wp2
      go_ret
      exact ⟨rfl, rfl⟩
    · have d2 : decide (n ≤ hi) = false := decide_eq_false h2
      rw [d1, d2]
      go_wp2
      go_ret
      exact ⟨rfl, rfl⟩
  · have d1 : decide (lo ≤ n) = false := decide_eq_false h1
    rw [d1]
    go_wp2
    go_ret
    exact ⟨rfl, rfl⟩
theorem decimalK (i : Int) (h0 : -1000000 ≤ i) (h1 : i ≤ 1000000) (w : World) (hT : Lib.TabIs Tryz.prog w "internal/strconv.uint64pow10" .u64 Lib.pow10Tab) :
    Calls Tryz.prog 36 #[.int .i64 i] w fun e w' => e = .returned (.string ⟨(Lib.itoa i).toArray⟩) ∧ Below w.heap.size w w' := by
  have c : Calls Tryz.prog 79 #[.int .i64 i, .int .i64 10] w fun e w' => e = .returned (.string ⟨(Lib.itoa i).toArray⟩) ∧ Below w.heap.size w w' :=
    (Any.strconv_FormatInt_10 laysM173 i (by omega) (by omega) w hT).mono (by
      rintro e w' ⟨rfl, k, os, rfl⟩
      refine ⟨rfl, rfl, rfl, rfl, by simp [Go.Sort.grow, World.drewN], fun j hj => ?_⟩
      show (w.heap ++ os)[j]? = w.heap[j]?
      rw [Array.getElem?_append_left hj])
  go_enter Tryz.func36, Tryz.ntmps36
  go_wp2_with fail
  refine c.mono ?_
  rintro e w1 ⟨rfl, hb⟩
  go_wp2
  go_ret
  exact ⟨rfl, hb⟩
theorem readBad (s : ByteArray) (lo hi n0 : Int) (te : TypeId) (w : World)
    (c : Calls Tryz.prog 78 #[.string s, .int .i64 10, .int .i64 64] w fun e w' => ∃ pe, e = .returned (.tuple #[.int .i64 n0, .iface te pe]) ∧ Below w.heap.size w w') :
    Calls Tryz.prog 34 #[.string s, .int .i64 lo, .int .i64 hi] w fun e w' => e = .returned (.tuple #[.int .i64 n0, .bool false]) ∧ Below w.heap.size w w' := by
  go_enter Tryz.func34, Tryz.ntmps34
  go_wp2_with fail
  refine c.mono ?_
  rintro e w1 ⟨pe, rfl, hb⟩
  go_wp2
  go_ret2
  exact ⟨rfl, hb⟩
theorem readOut (s : ByteArray) (lo hi v : Int) (w : World) (hr : (decide (lo ≤ v) && decide (v ≤ hi)) = false)
    (c : Calls Tryz.prog 78 #[.string s, .int .i64 10, .int .i64 64] w fun e w' => e = .returned (.tuple #[.int .i64 v, .nilIface]) ∧ Below w.heap.size w w') :
    Calls Tryz.prog 34 #[.string s, .int .i64 lo, .int .i64 hi] w fun e w' => e = .returned (.tuple #[.int .i64 v, .bool false]) ∧ Below w.heap.size w w' := by
  go_enter Tryz.func34, Tryz.ntmps34
  go_wp2_with fail
  refine c.mono ?_
  rintro e w1 ⟨rfl, hb⟩
  go_wp2_with fail
  refine (inRangeK v lo hi w1).mono ?_
  rintro e w2 ⟨rfl, rfl⟩
  rw [hr]
  go_wp2
  go_ret2
  exact ⟨rfl, hb⟩
theorem below_var {P : Program} {w w' : World} {n : String} {cs : Array Value} (hb : Below w.heap.size w w') (h : w.var? P n = some cs) : w'.var? P n = some cs := by
  unfold World.var? at h ⊢
  cases hg : P.globalNamed n with
  | none => rw [hg] at h; cases h
  | some g =>
    rw [hg] at h
    simp only [Option.bind_some] at h ⊢
    have hlt : g < w.heap.size := by
      rcases Nat.lt_or_ge g w.heap.size with h' | h'
      · exact h'
      · simp [Array.getElem?_eq_none h'] at h
    rw [hb.block g hlt]
    exact h
theorem readIn (s : ByteArray) (lo hi v : Int) (w : World) (h0 : -1000000 ≤ v) (h1 : v ≤ 1000000) (hr : (decide (lo ≤ v) && decide (v ≤ hi)) = true) (hT : Lib.TabIs Tryz.prog w "internal/strconv.uint64pow10" .u64 Lib.pow10Tab)
    (c : Calls Tryz.prog 78 #[.string s, .int .i64 10, .int .i64 64] w fun e w' => e = .returned (.tuple #[.int .i64 v, .nilIface]) ∧ Below w.heap.size w w') :
    Calls Tryz.prog 34 #[.string s, .int .i64 lo, .int .i64 hi] w fun e w' => e = .returned (.tuple #[.int .i64 v, .bool (Lib.itoa v == s.toList)]) ∧ Below w.heap.size w w' := by
  go_enter Tryz.func34, Tryz.ntmps34
  go_wp2_with fail
  refine c.mono ?_
  rintro e w1 ⟨rfl, hb⟩
  go_wp2_with fail
  refine (inRangeK v lo hi w1).mono ?_
  rintro e w2 ⟨rfl, rfl⟩
  rw [hr]
  go_wp2_with fail
  refine (decimalK v h0 h1 w2 (below_var hb hT)).mono ?_
  rintro e w3 ⟨rfl, hb2⟩
  go_wp2
  go_ret2
  exact ⟨rfl, hb.trans (hb2.mono hb.size)⟩
end Go.Proofs.YtaekjojblkhfdaaGreatDoor
namespace Go.Proofs.YtaekjojblkhfdaaGreatDoor
open Go Go.Sx
open Go.Proofs Go.Shelf
structure PinR (H : List Blk) : Prop extends Pow H where
  syn : ∃ ev, H[1]? = some ⟨[.v ev], 0, .pin 0⟩ ∧ (ev = .nilIface ∨ ∃ te pe, ev = .iface te pe)
  rng : ∃ ev, H[2]? = some ⟨[.v ev], 0, .pin 1⟩ ∧ (ev = .nilIface ∨ ∃ te pe, ev = .iface te pe)
  mx : ∃ m, H[3]? = some ⟨[.v (.int .i64 m)], 0, .pin 3⟩
theorem PinR.app {H L : List Blk} (h : PinR H) : PinR (H ++ L) :=
  ⟨h.toPow.app, by obtain ⟨e, h1, h2⟩ := h.syn; exact ⟨e, get_app h1, h2⟩, by obtain ⟨e, h1, h2⟩ := h.rng; exact ⟨e, get_app h1, h2⟩, by obtain ⟨m, h1⟩ := h.mx; exact ⟨m, get_app h1⟩⟩
theorem u8L_inj : ∀ {a b : List Int}, B8 a → B8 b → u8L a = u8L b → a = b := fun {a b} ha hb h => bstr_inj ha hb (by unfold bstr; exact congrArg (fun l : List UInt8 => (⟨l.toArray⟩ : ByteArray)) h)
theorem bstr_toL (t : List Int) : (bstr t).toList = u8L t := by rw [ByteArray.toList_eq, bstr_u8']
theorem itoa_beq {t : List Int} (h8 : B8 t) (v : Int) : (Lib.itoa v == (bstr t).toList) = decide (decI v = t) := by
  rw [bstr_toL, ← u8L_decI, Bool.eq_iff_iff]
  simp only [beq_iff_eq, decide_eq_true_eq]
  exact ⟨fun h => u8L_inj (decI_8 v) h8 h, fun h => by rw [h]⟩
theorem bw_below {w w' : World} {t : TypeId} (h : w' = w ∨ ∃ s, w' = Lib.bytesWorld w t s) : Go.RowKit.Below w.heap.size w w' := by
  rcases h with rfl | ⟨s, rfl⟩
  · exact Go.RowKit.Below.refl _ _
  · refine ⟨?_, ?_, ?_, ?_, fun k hk => Lib.bytesWorld_at_old w _ s k hk⟩
    · simp [Lib.bytesWorld, World.freeze, World.alloc, World.drew, -World.alloc_eq, -World.drew_eq]
    · simp [Lib.bytesWorld, World.freeze, World.alloc, World.drew, -World.alloc_eq, -World.drew_eq]
    · simp [Lib.bytesWorld, World.freeze, World.alloc, World.drew, -World.alloc_eq, -World.drew_eq]
    · rw [Lib.bytesWorld_size]; omega
theorem readDec {H : List Blk} (hp : PinR H) {t : List Int} (h8 : B8 t) (hl : t.length ≤ 1000000) {lo hi : Int} (h0 : -1000 ≤ lo) (h1 : hi ≤ 1000) :
    Cal Tryz.prog 34 [.v (.string (bstr t)), .v (.int .i64 lo), .v (.int .i64 hi)] H fun u H' => u = .t [.v (.int .i64 (rdV t)), .v (.bool (rdOk t lo hi))] ∧ H' = H := by
  refine cal_below (by kernel_rfl) (r := .t [.v (.int .i64 (rdV t)), .v (.bool (rdOk t lo hi))]) (by simp [go_sem]) fun σ w hw hlt => ?_
  have hs : (bstr t).data.toList = u8L t := bstr_u8' t
  have hz : (bstr t).size = t.length := bstr_size t
  cases e : Lib.parseIntB 64 (u8L t) with
  | ok v =>
    have eV : rdV t = v := by unfold rdV; rw [e]
    have eO : rdOk t lo hi = (decide (lo ≤ v) && decide (v ≤ hi) && decide (decI v = t)) := by unfold rdOk; rw [e]
    have c : Calls Tryz.prog 78 #[.string (bstr t), .int .i64 10, .int .i64 64] w fun e w' => e = .returned (.tuple #[.int .i64 v, .nilIface]) ∧ Go.RowKit.Below w.heap.size w w' :=
      (Any.strconv_ParseInt_10_at64_ok laysC174 (bstr t) (by omega) v (by rw [hs, e]) w).mono fun e' w' ⟨h3, h4⟩ => ⟨h3, bw_below h4⟩
    rw [eV, eO]
    cases hr : (decide (lo ≤ v) && decide (v ≤ hi))
    · exact (readOut (bstr t) lo hi v w hr c).mono fun e' w' ⟨h3, h4⟩ => ⟨h3, h4⟩
    · have hr2 := hr
      simp only [Bool.and_eq_true, decide_eq_true_eq] at hr2
      refine (readIn (bstr t) lo hi v w (by omega) (by omega) hr (pow_is hw hp.toPow) c).mono fun e' w' ⟨h3, h4⟩ => ⟨?_, h4⟩
      rw [h3, itoa_beq h8]
      rfl
  | range =>
    have eV : rdV t = Lib.intSat 64 (u8L t) := by unfold rdV; rw [e]
    have eO : rdOk t lo hi = false := by unfold rdOk; rw [e]
    obtain ⟨ev, hv, hev⟩ := hp.rng
    rw [eV, eO]
    exact (readBad (bstr t) lo hi _ _ w ((Any.strconv_ParseInt_10_at64_range laysC174 (bstr t) (by omega) (by rw [hs, e]) ev w (hw.pin_cell hv rfl) hev).mono fun e' w' ⟨N, h3, _, _, h4⟩ => ⟨_, h3, h4⟩)).mono fun e' w' ⟨h3, h4⟩ => ⟨by rw [h3, hs]; rfl, h4⟩
  | _ =>
    have eV : rdV t = 0 := by unfold rdV; rw [e]
    have eO : rdOk t lo hi = false := by unfold rdOk; rw [e]
    obtain ⟨ev, hv, hev⟩ := hp.syn
    rw [eV, eO]
    exact (readBad (bstr t) lo hi 0 _ w ((Any.strconv_ParseInt_10_at64_syntax laysC174 (bstr t) (by omega) (by rw [hs, e]) ev w (hw.pin_cell hv rfl) hev).mono fun e' w' ⟨N, h3, _, _, h4⟩ => ⟨_, h3, h4⟩)).mono fun e' w' ⟨h3, h4⟩ => ⟨h3, h4⟩
theorem hi146 : (Tryz.prog.info? (lays146_ren.t 9)).map (fun i => (i.zero, i.size, i.bytes)) = some (some (.string ByteArray.empty), 1, 16) := by kernel_rfl
theorem splitC {H : List Blk} (hp : PinR H) {t : List Int} (h8 : B8 t) (hl : t.length ≤ 1000000) :
    Cal Tryz.prog 77 [.v (.string (bstr t)), .v (.string (bstr [32]))] H fun u H' => u = .s H.length 0 (spl 32 t).length (.u 0) ∧ H' = H ++ [⟨(spl 32 t).flatMap sC, 9, .own 1⟩] := by
  refine cal_ownsRow (by kernel_rfl) (n := (spl 32 t).length) (by rw [flat_sC.flen]) (List.length_pos_iff.2 (spl_ne 32 t)) (fun c hc => ?_) fun σ w hw hlt => ?_
  · rw [sC_map] at hc
    obtain ⟨x, _, rfl⟩ := List.mem_map.1 hc
    exact ⟨rfl, rfl⟩
  · obtain ⟨m, hm⟩ := hp.mx
    have hb := splitB_spl (c := 32) (by omega) h8
    have hcount : Lib.countB (bstr t) (bstr [32]) + 1 = (spl 32 t).length := by
      have := Lib.splitB_all (bstr [32]) (by decide) 0 _ (bstr t) rfl
      rw [hb, List.length_map] at this
      omega
    have hlen := spl_len_le 32 t []
    refine (Any.strings_Split lays146 hi146 (bstr t) (bstr [32]) m w (by rw [bstr_size]; omega) (hw.pin_cell hm rfl) (by decide)).mono ?_
    rintro e w' ⟨rfl, rfl⟩
    rw [hcount, hb]
    have ec : concs σ ((spl 32 t).flatMap sC) = ((spl 32 t).map bstr).map Value.string := by
      rw [sC_map, concs_eq, List.map_map, List.map_map]; rfl
    refine ⟨_, rfl, ⟨by rw [ec]; simp, .inr ⟨w.heap.size, (spl 32 t).length, (((spl 32 t).map bstr).map Value.string).toArray, rfl, Nat.le_refl _, ?_, Nat.le_refl _, ?_, by simp, ?_⟩⟩, ?_⟩
    · simp [World.alloc, -World.alloc_eq]; rfl
    · unfold spl at *; unfold maxLen; omega
    · rw [ec, List.take_of_length_le]
      simp
    · refine ⟨by simp [World.alloc, -World.alloc_eq], by simp [World.alloc, -World.alloc_eq], by simp [World.alloc, -World.alloc_eq], by simp [World.alloc, -World.alloc_eq], fun k hk => ?_⟩
      unfold World.alloc
      simp only
      rw [Array.getElem?_push, if_neg (Nat.ne_of_lt hk)]
end Go.Proofs.YtaekjojblkhfdaaGreatDoor
namespace Go.Proofs.YtaekjojblkhfdaaGreatDoor
open Go Go.Sx
def wds (t : List Int) : List (List Int) := if t = [] then [] else spl 32 t
theorem wds_8 {t : List Int} (h : B8 t) : ∀ w ∈ wds t, B8 w := by
  unfold wds; split
  · intro w hw; cases hw
  · exact spl_8 h
theorem wds_wlen (t : List Int) : ∀ w ∈ wds t, w.length ≤ t.length := by
  unfold wds; split
  · intro w hw; cases hw
  · exact spl_wlen 32 t
theorem wds_len (t : List Int) : (wds t).length ≤ t.length + 1 := by
  unfold wds; split
  · simp
  · exact spl_len_le 32 t []
def wBt (w : List Int) : Bool := match numN w with
  | some n => decide (n < 40)
  | none => false
def wVt (w : List Int) : Int := (((numN w).getD 0 : Nat) : Int)
theorem wB_iff {w : List Int} : wBt w = true ↔ ∃ k : Nat, k < 40 ∧ w = decT k := by
  unfold wBt
  constructor
  · intro h
    cases e : numN w with
    | none => rw [e] at h; cases h
    | some n =>
      rw [e] at h
      have hn := of_decide_eq_true h
      exact ⟨n, hn, (numN_iff (by omega)).1 e⟩
  · rintro ⟨k, hk, e⟩
    rw [(numN_iff (by omega)).2 e]
    exact decide_eq_true hk
theorem wV_dec {k : Nat} (hk : k < 40) : wVt (decT k) = k := by
  unfold wVt; rw [(numN_iff (t := decT k) (n := k) (by omega)).2 rfl]; rfl
theorem rd_wB (w : List Int) : rdOk w 0 39 = wBt w := by
  rw [Bool.eq_iff_iff, wB_iff]
  constructor
  · intro h
    have := rd_is h
    obtain ⟨k, hk⟩ := Int.eq_ofNat_of_zero_le this.1
    refine ⟨k, by omega, ?_⟩
    have h3 := this.2.2
    rw [hk, decI_nat] at h3
    exact h3
  · rintro ⟨k, hk, rfl⟩
    rw [← decI_nat]
    exact (rd_dec (by omega) (by omega) (by omega) (by omega)).1
theorem rd_wV {w : List Int} (h : wBt w = true) : rdV w = wVt w := by
  obtain ⟨k, hk, rfl⟩ := wB_iff.1 h
  rw [wV_dec hk, ← decI_nat]
  exact (rd_dec (lo := 0) (hi := 39) (by omega) (by omega) (by omega) (by omega)).2
def roOk (t : List Int) : Bool := decide ((wds t).length ≤ 40) && (wds t).all wBt
def roV (t : List Int) : List Int := if roOk t = true then (wds t).map wVt else []
theorem wordsNil {H : List Blk} : Cal Tryz.prog 33 [.v (.string (bstr []))] H fun u H' => u = .v (.slice none 0 0) ∧ H' = H := by
  refine cal_fn 6 mixed Tryz.func33 Tryz.ntmps33 Tryz.results33 rfl rfl rfl fun hw cx hx hq => ?_
  repeat ((simp only [go_sem, Int.reduceLT, Int.reduceLE, Int.reduceEq, Int.reduceToNat, bs0]) )
  refine ret_same hq _ (.inl rfl) ?_
  simp [go_sem]
theorem wordsC {H : List Blk} (hp : PinR H) {t : List Int} (h8 : B8 t) (hl : t.length ≤ 1000000) (h0 : t ≠ []) :
    Cal Tryz.prog 33 [.v (.string (bstr t))] H fun u H' => u = .s H.length 0 (wds t).length (.u 0) ∧ H' = H ++ [⟨(wds t).flatMap sC, 9, .own 1⟩] := by
  have hn0 : ((bstr t).toList = (bstr []).toList) = False := eq_false (by rw [bstr_toL, bstr_toL]; intro h; exact h0 (u8L_inj h8 (fun x hx => by cases hx) h))
  have ew : wds t = spl 32 t := if_neg h0
  rw [ew]
  refine cal_fn 6 mixed Tryz.func33 Tryz.ntmps33 Tryz.results33 rfl rfl rfl fun hw cx hx hq => ?_
  repeat (first | (simp only [go_sem, Int.reduceLT, Int.reduceLE, Int.reduceEq, Int.reduceToNat, bs0, bs32, hn0]) | ((with_reducible refine isSK ?_); refine call_ret (splitC (by exact hp ) h8 hl) ?_ ?_) )
  refine ret_at hq _ (.inl rfl) (by simp) ?_
  simp [go_sem]
theorem map_i64 (l : List (List Int)) (n : Nat) (h : n < l.length) : ((l.take (n + 1)).map wVt).flatMap i64C = ((l.take n).map wVt).flatMap i64C ++ [.v (.int .i64 (wVt l[n]))] := by
  rw [List.take_succ_eq_append_getElem h, List.map_append, List.flatMap_append]; rfl
end Go.Proofs.YtaekjojblkhfdaaGreatDoor
