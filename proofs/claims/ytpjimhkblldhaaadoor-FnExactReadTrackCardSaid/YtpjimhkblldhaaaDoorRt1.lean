/- Contracts of functions of the translated program, by the walk. -/
import Derived.Test.YtpjimhkblldhaaaDoorRd5
import Derived.Test.YtpjimhkblldhaaaDoorK13
set_option linter.unusedVariables false
set_option linter.unusedSimpArgs false
set_option maxRecDepth 8000
set_option maxHeartbeats 4000000
namespace Go.Proofs.YtpjimhkblldhaaaDoor
open Go Go.Sx
open Go.Proofs
/-- A text cut at the first such byte. -/
def cutL (c : Int) : List Int → List Int × List Int × Bool
  | [] => ([], [], false)
  | x :: t => if x = c then ([], t, true) else (x :: (cutL c t).1, (cutL c t).2.1, (cutL c t).2.2)
theorem cutL_miss {c : Int} : ∀ {t : List Int}, c ∉ t → cutL c t = (t, [], false)
  | [], _ => rfl
  | x :: t, h => by
    rw [cutL, if_neg (fun e => h (by rw [e]; exact List.mem_cons_self ..)), cutL_miss (fun e => h (List.mem_cons_of_mem _ e))]
theorem cutL_hit {c : Int} {r : List Int} : ∀ {l : List Int}, c ∉ l → cutL c (l ++ c :: r) = (l, r, true)
  | [], _ => by rw [List.nil_append, cutL, if_pos rfl]
  | x :: l, h => by
    rw [List.cons_append, cutL, if_neg (fun e => h (by rw [e]; exact List.mem_cons_self ..)), cutL_hit (fun e => h (List.mem_cons_of_mem _ e))]
theorem cut_lib {c : Int} (hc : 0 ≤ c ∧ c ≤ 255) {t : List Int} (h8 : B8 t) : Lib.cut (u8L t) (u8L [c]) = (u8L (cutL c t).1, u8L (cutL c t).2.1, (cutL c t).2.2) := by
  rcases spl_view c t with ⟨h1, _⟩ | ⟨l, r, h1, h2, _⟩
  · unfold Lib.cut
    rw [index_miss hc h8 h1, if_neg (by decide), cutL_miss h1]
    rfl
  · subst h1
    unfold Lib.cut
    rw [index_hit' hc (B8.left' h8) h2, if_pos (by omega), cutL_hit h2, Int.toNat_natCast]
    have hd : (u8L (l ++ c :: r)).drop (l.length + (u8L [c]).length) = u8L r := by
      rw [u8L_app, ← u8L_len l, List.drop_append]
      simp [u8L]
    have ht : (u8L (l ++ c :: r)).take l.length = u8L l := by
      rw [u8L_app, ← u8L_len l, List.take_left']
      rfl
    rw [hd, ht]
theorem cutL_8 {c : Int} {t : List Int} (h8 : B8 t) : B8 (cutL c t).1 ∧ B8 (cutL c t).2.1 := by
  rcases spl_view c t with ⟨h1, _⟩ | ⟨l, r, h1, h2, _⟩
  · rw [cutL_miss h1]; exact ⟨h8, fun x hx => by cases hx⟩
  · subst h1
    rw [cutL_hit h2]
    exact ⟨B8.left' h8, fun x hx => B8.right' h8 x (List.mem_cons_of_mem _ hx)⟩
theorem cutL_len (c : Int) (t : List Int) : (cutL c t).1.length ≤ t.length ∧ (cutL c t).2.1.length ≤ t.length := by
  rcases spl_view c t with ⟨h1, _⟩ | ⟨l, r, h1, h2, _⟩
  · rw [cutL_miss h1]; simp
  · subst h1
    rw [cutL_hit h2]
    simp; omega
theorem digN_lt : ∀ (t : List Int) (acc n : Nat), digN acc t = some n → n < (acc + 1) * 10 ^ t.length
  | [], acc, n, h => by
    have := Option.some.inj h
    simp; omega
  | c :: t, acc, n, h => by
    rw [digN] at h
    split at h
    · have ih := digN_lt t _ n h
      rename_i hc
      have h1 : 10 * acc + (c - 48).toNat + 1 ≤ (acc + 1) * 10 := by omega
      calc n < (10 * acc + (c - 48).toNat + 1) * 10 ^ t.length := ih
        _ ≤ (acc + 1) * 10 * 10 ^ t.length := Nat.mul_le_mul_right _ h1
        _ = (acc + 1) * 10 ^ (c :: t).length := by rw [List.length_cons, Nat.pow_succ, Nat.mul_assoc, Nat.mul_comm 10]
    · cases h
theorem numN_lt {t : List Int} {n : Nat} (h : numN t = some n) : n < 10000000000 := by
  unfold numN at h
  split at h
  · cases h
  · rename_i hh
    simp only [not_or] at hh
    have h1 := digN_lt t 0 n h
    have h2 : 10 ^ t.length ≤ 10 ^ 10 := Nat.pow_le_pow_right (by omega) (by omega)
    omega
theorem numN_get (t : List Int) : (numN t).getD 0 < 10000000000 := by
  cases e : numN t with
  | none => simp
  | some n => exact numN_lt e
/-- A number with its sign: whether there is one, and what is handed back. -/
def sgO : List Int → Bool
  | [] => false
  | c :: r => if c = 45 then (numN r).isSome && decide (0 < (numN r).getD 0) else (numN (c :: r)).isSome
def sgV : List Int → Int
  | [] => 0
  | c :: r => if c = 45 then 0 - (((numN r).getD 0 : Nat) : Int) else (((numN (c :: r)).getD 0 : Nat) : Int)
theorem sgO_45 (r : List Int) : sgO (45 :: r) = ((numN r).isSome && decide (0 < (numN r).getD 0)) := rfl
theorem sgV_45 (r : List Int) : sgV (45 :: r) = 0 - (((numN r).getD 0 : Nat) : Int) := rfl
theorem sgO_ne {c : Int} (r : List Int) (h : c ≠ 45) : sgO (c :: r) = (numN (c :: r)).isSome := if_neg h
theorem sgV_ne {c : Int} (r : List Int) (h : c ≠ 45) : sgV (c :: r) = (((numN (c :: r)).getD 0 : Nat) : Int) := if_neg h
theorem decT_dig (n : Nat) : ∀ c ∈ decT n, 48 ≤ c ∧ c ≤ 57 := by
  induction n using Nat.strongRecOn with
  | _ n ih =>
    intro c hc
    by_cases h : n < 10
    · rw [decT_small h] at hc
      rw [List.mem_singleton.1 hc]; omega
    · rw [decT_big (by omega)] at hc
      rcases List.mem_append.1 hc with hc | hc
      · exact ih (n / 10) (by omega) c hc
      · rw [List.mem_singleton.1 hc]; omega
theorem decI_not {n c : Int} (hc : 48 > c ∨ 57 < c) (h45 : c ≠ 45) : c ∉ decI n := by
  intro h
  rcases Int.lt_or_le n 0 with h0 | h0
  · obtain ⟨k, hk⟩ : ∃ k : Nat, n = -(k : Int) := ⟨n.natAbs, by omega⟩
    subst hk
    rw [decI_neg (by omega)] at h
    rcases List.mem_cons.1 h with h | h
    · exact h45 h
    · have := decT_dig k c h; omega
  · obtain ⟨k, rfl⟩ := Int.eq_ofNat_of_zero_le h0
    rw [decI_nat] at h
    have := decT_dig k c h; omega
theorem decT_ne45 (k : Nat) : ∃ c r, decT k = c :: r ∧ c ≠ 45 := by
  cases e : decT k with
  | nil => exact absurd e (decT_0 k)
  | cons c r => exact ⟨c, r, rfl, fun h => by have := decT_dig k c (by rw [e]; exact List.mem_cons_self ..); omega⟩
theorem sg_dec {n : Int} (h0 : -1000 < n) (h1 : n < 1000) : sgO (decI n) = true ∧ sgV (decI n) = n := by
  rcases Int.lt_or_le n 0 with h | h
  · obtain ⟨k, hk⟩ : ∃ k : Nat, n = -(k : Int) := ⟨n.natAbs, by omega⟩
    subst hk
    rw [decI_neg (by omega)]
    rw [sgO_45, sgV_45, (numN_iff (n := k) (by omega)).2 rfl]
    simp; omega
  · obtain ⟨k, rfl⟩ := Int.eq_ofNat_of_zero_le h
    have e := (numN_iff (t := decT k) (n := k) (by omega)).2 rfl
    obtain ⟨c, r, e2, h45⟩ := decT_ne45 k
    rw [decI_nat, e2]
    rw [e2] at e
    rw [sgO_ne _ h45, sgV_ne _ h45, e]
    exact ⟨rfl, rfl⟩
theorem sg_is {t : List Int} (h : sgO t = true) (h0 : -1000 < sgV t) (h1 : sgV t < 1000) : t = decI (sgV t) := by
  cases t with
  | nil => cases h
  | cons c r =>
    by_cases hc : c = 45
    · subst hc
      rw [sgO_45] at h
      rw [sgV_45] at h0 h1 ⊢
      cases e : numN r with
      | none => rw [e] at h; cases h
      | some k =>
        rw [e] at h h0 h1
        simp only [Option.getD_some, Option.isSome_some, Bool.true_and, decide_eq_true_eq] at h h0 h1 ⊢
        have e2 := (numN_iff (by omega)).1 e
        rw [show (0 : Int) - (k : Int) = -(k : Int) by omega, decI_neg (by omega), ← e2]
    · rw [sgO_ne _ hc] at h
      rw [sgV_ne _ hc] at h0 h1 ⊢
      cases e : numN (c :: r) with
      | none => rw [e] at h; cases h
      | some k =>
        rw [e] at h0 h1
        simp only [Option.getD_some] at h0 h1 ⊢
        rw [decI_nat]
        exact (numN_iff (by omega)).1 e
/-- What the reference reads of a word: three numbers. -/
def trW (w : List Int) : Option (List Int × List Int × List Int) := match spl 58 w with
  | [a, p] => match spl 44 p with
    | [b, c] => some (a, b, c)
    | _ => none
  | _ => none
def trO (w : List Int) : Bool := match trW w with
  | some (a, b, c) => (numN a).isSome && sgO b && sgO c
  | none => false
def trF (w : List Int) : Nat → Int := match trW w with
  | some (a, b, c) => keyF (((numN a).getD 0 : Nat) : Int) (sgV b) (sgV c)
  | none => fun _ => 0
/-- What the program reads of a word. -/
def imO (w : List Int) : Bool := (cutL 58 w).2.2 && (cutL 44 (cutL 58 w).2.1).2.2 && rdOk (cutL 58 w).1 0 200 && rdOk (cutL 44 (cutL 58 w).2.1).1 (-24) 24 && rdOk (cutL 44 (cutL 58 w).2.1).2.1 (-24) 24
def imF (w : List Int) : Nat → Int := keyF (rdV (cutL 58 w).1) (rdV (cutL 44 (cutL 58 w).2.1).1) (rdV (cutL 44 (cutL 58 w).2.1).2.1)
theorem rd_not {t : List Int} {lo hi c : Int} (hc : 48 > c ∨ 57 < c) (h45 : c ≠ 45) (h : c ∈ t) : rdOk t lo hi = false := by
  rw [Bool.eq_false_iff]
  intro e
  have := (rd_is e).2.2
  rw [this] at h
  exact decI_not hc h45 h
theorem rd_num {a : List Int} : rdOk a 0 200 = ((numN a).isSome && decide ((numN a).getD 0 ≤ 200)) ∧ (rdOk a 0 200 = true → rdV a = (((numN a).getD 0 : Nat) : Int)) := by
  have key : rdOk a 0 200 = true → ∃ k : Nat, numN a = some k ∧ k ≤ 200 ∧ rdV a = k := by
    intro h
    have h1 := rd_is h
    obtain ⟨k, hk⟩ := Int.eq_ofNat_of_zero_le h1.1
    have h3 := h1.2.2
    rw [hk, decI_nat] at h3
    exact ⟨k, (numN_iff (by omega)).2 h3, by omega, hk⟩
  constructor
  · rw [Bool.eq_iff_iff]
    constructor
    · intro h
      obtain ⟨k, e, hk, _⟩ := key h
      rw [e]; simp; exact hk
    · intro h
      simp only [Bool.and_eq_true, decide_eq_true_eq] at h
      cases e : numN a with
      | none => rw [e] at h; cases h.1
      | some k =>
        rw [e] at h
        simp only [Option.getD_some] at h
        have e2 := (numN_iff (by omega)).1 e
        rw [e2, ← decI_nat]
        exact (rd_dec (by omega) (by omega) (by omega) (by omega)).1
  · intro h
    obtain ⟨k, e, hk, e2⟩ := key h
    rw [e, e2]; rfl
theorem rd_sg {a : List Int} : rdOk a (-24) 24 = (sgO a && decide (-24 ≤ sgV a) && decide (sgV a ≤ 24)) ∧ (rdOk a (-24) 24 = true → rdV a = sgV a) := by
  have key : rdOk a (-24) 24 = true → sgO a = true ∧ rdV a = sgV a ∧ -24 ≤ sgV a ∧ sgV a ≤ 24 := by
    intro h
    have h1 := rd_is h
    have h2 := sg_dec (n := rdV a) (by omega) (by omega)
    rw [← h1.2.2] at h2
    exact ⟨h2.1, h2.2.symm, by omega, by omega⟩
  constructor
  · rw [Bool.eq_iff_iff]
    constructor
    · intro h
      obtain ⟨h1, _, h3, h4⟩ := key h
      simp [h1, h3, h4]
    · intro h
      simp only [Bool.and_eq_true, decide_eq_true_eq] at h
      have e := sg_is h.1.1 (by omega) (by omega)
      rw [e]
      exact (rd_dec (by omega) (by omega) (by omega) (by omega)).1
  · intro h; exact (key h).2.1
theorem im_tr (w : List Int) : imO w = (trO w && okK (mdK (trF w))) ∧ (imO w = true → imF w = mdK (trF w)) := by
  have bad : trW w = none → imO w = false → imO w = (trO w && okK (mdK (trF w))) ∧ (imO w = true → imF w = mdK (trF w)) := by
    intro h1 h2
    refine ⟨?_, fun h => by rw [h2] at h; cases h⟩
    unfold trO; rw [h2, h1]; rfl
  rcases spl_view 58 w with ⟨h1, h2⟩ | ⟨l, r, h1, h2, h3⟩
  · apply bad
    · unfold trW; rw [h2]
    · unfold imO; rw [cutL_miss h1]; rfl
  · subst h1
    have ec := cutL_hit (r := r) h2
    rcases spl_view 58 r with ⟨h4, h5⟩ | ⟨l2, r2, h4, h5, h6⟩
    · rcases spl_view 44 r with ⟨h7, h8⟩ | ⟨l3, r3, h7, h8, h9⟩
      · apply bad
        · unfold trW; rw [h3, h5]; simp only; rw [h8]
        · unfold imO; rw [ec]; simp only; rw [cutL_miss h7]; rfl
      · subst h7
        have ec2 := cutL_hit (r := r3) h8
        rcases spl_view 44 r3 with ⟨h10, h11⟩ | ⟨l4, r4, h10, _, h12⟩
        · have eW : trW (l ++ 58 :: (l3 ++ 44 :: r3)) = some (l, l3, r3) := by unfold trW; rw [h3, h5]; simp only; rw [h9, h11]
          have eO : trO (l ++ 58 :: (l3 ++ 44 :: r3)) = ((numN l).isSome && sgO l3 && sgO r3) := by unfold trO; rw [eW]
          have eF : trF (l ++ 58 :: (l3 ++ 44 :: r3)) = keyF (((numN l).getD 0 : Nat) : Int) (sgV l3) (sgV r3) := by unfold trF; rw [eW]
          have eI : imO (l ++ 58 :: (l3 ++ 44 :: r3)) = (rdOk l 0 200 && rdOk l3 (-24) 24 && rdOk r3 (-24) 24) := by unfold imO; rw [ec]; simp only; rw [ec2]; simp
          have eG : imF (l ++ 58 :: (l3 ++ 44 :: r3)) = keyF (rdV l) (rdV l3) (rdV r3) := by unfold imF; rw [ec]; simp only; rw [ec2]
          have hk : okK (mdK (keyF (((numN l).getD 0 : Nat) : Int) (sgV l3) (sgV r3))) = (decide ((numN l).getD 0 ≤ 200) && (decide (-24 ≤ sgV l3) && decide (sgV l3 ≤ 24)) && (decide (-24 ≤ sgV r3) && decide (sgV r3 ≤ 24))) := by
            rw [Bool.eq_iff_iff, okK_iff]
            simp only [mdK, keyF_0, keyF_1, keyF_2, Bool.and_eq_true, decide_eq_true_eq]
            omega
          rw [eI, eO, eF, hk, rd_num.1, rd_sg.1, rd_sg.1, eG]
          refine ⟨?_, fun h => ?_⟩
          · cases (numN l).isSome <;> cases sgO l3 <;> cases sgO r3 <;> simp [Bool.and_assoc]
          · simp only [Bool.and_eq_true] at h
            rw [rd_num.2 (by rw [rd_num.1]; simp only [Bool.and_eq_true]; exact h.1.1), rd_sg.2 (by rw [rd_sg.1]; simp only [Bool.and_eq_true]; exact h.1.2), rd_sg.2 (by rw [rd_sg.1]; simp only [Bool.and_eq_true]; exact h.2)]
            rfl
        · apply bad
          · unfold trW; rw [h3, h5]; simp only; rw [h9, h12]
            cases e : spl 44 r4 with
            | nil => exact absurd e (spl_ne 44 r4)
            | cons => rfl
          · unfold imO; rw [ec]; simp only; rw [ec2]; simp only
            rw [rd_not (c := 44) (t := r3) (by omega) (by omega) (by rw [h10]; simp), Bool.and_false]
    · have e58 : 58 ∈ r := by rw [h4]; simp
      apply bad
      · unfold trW; rw [h3, h6]
        cases e : spl 58 r2 with
        | nil => exact absurd e (spl_ne 58 r2)
        | cons => rfl
      · unfold imO; rw [ec]; simp only
        rcases spl_view 44 r with ⟨h7, _⟩ | ⟨l3, r3, h7, h8, _⟩
        · rw [cutL_miss h7]; rfl
        · rw [h7] at e58
          rw [h7, cutL_hit h8]
          simp only
          rcases List.mem_append.1 e58 with e | e
          · rw [rd_not (c := 58) (t := l3) (by omega) (by omega) e]; simp
          · rcases List.mem_cons.1 e with e | e
            · omega
            · rw [rd_not (c := 58) (t := r3) (by omega) (by omega) e, Bool.and_false]
/-- What ReadTrack reads: the keys, or none. -/
def rtOk (t : List Int) : Bool := (spl 32 t).all trO && tkOk ((spl 32 t).map fun w => mdK (trF w))
def rtV (t : List Int) : List (Nat → Int) := if rtOk t = true then (spl 32 t).map fun w => mdK (trF w) else []
def rtC (t : List Int) : Int := if rtOk t = true then 0 else 5
theorem trO_nil : trO [] = false := rfl
theorem imO_nil : imO [] = false := rfl
theorem splA_sum (c : Int) : ∀ (t acc : List Int), ((splA c acc t).map List.length).sum + (splA c acc t).length = acc.length + t.length + 1
  | [], acc => by simp [splA]
  | x :: t, acc => by
    unfold splA
    split
    · have := splA_sum c t []
      simp only [List.map_cons, List.sum_cons, List.length_cons, List.length_nil] at this ⊢
      omega
    · have := splA_sum c t (acc ++ [x])
      simp only [List.length_append, List.length_cons, List.length_nil] at this ⊢
      omega
theorem sum_ge : ∀ (l : List (List Int)), (∀ w ∈ l, w ≠ []) → l.length ≤ (l.map List.length).sum
  | [], _ => Nat.zero_le _
  | w :: l, h => by
    have h1 := sum_ge l fun x hx => h x (List.mem_cons_of_mem _ hx)
    have h2 := List.length_pos_iff.2 (h w (List.mem_cons_self ..))
    simp only [List.map_cons, List.sum_cons, List.length_cons]
    omega
theorem spl_few {c : Int} {t : List Int} (h : ∀ w ∈ spl c t, w ≠ []) : 2 * (spl c t).length ≤ t.length + 1 := by
  have h1 := splA_sum c t []
  have h2 := sum_ge (spl c t) h
  unfold spl at h2 ⊢
  simp only [List.length_nil] at h1
  omega
theorem wds_few {t : List Int} (h : ∀ w ∈ wds t, w ≠ []) (h0 : t ≠ []) : 2 * (wds t).length ≤ t.length + 1 := by
  have ew : wds t = spl 32 t := if_neg h0
  rw [ew] at h ⊢
  exact spl_few h
theorem rtOk_im (t : List Int) : rtOk t = ((wds t).all imO && tkOk ((wds t).map imF)) := by
  by_cases h0 : t = []
  · subst h0
    rfl
  have ew : wds t = spl 32 t := if_neg h0
  rw [ew]
  rw [Bool.eq_iff_iff]
  unfold rtOk
  simp only [Bool.and_eq_true, List.all_eq_true]
  constructor
  · rintro ⟨h1, h2⟩
    have h3 : ∀ w ∈ spl 32 t, imO w = true := fun w hw => by
      rw [(im_tr w).1, h1 w hw]
      obtain ⟨i, hi, rfl⟩ := List.mem_iff_getElem.1 hw
      have := (tkOk_at h2 (i := i) (by simpa using hi)).1
      simpa using this
    refine ⟨h3, ?_⟩
    have e : (spl 32 t).map imF = (spl 32 t).map fun w => mdK (trF w) := List.map_congr_left fun w hw => (im_tr w).2 (h3 w hw)
    rw [e]; exact h2
  · rintro ⟨h1, h2⟩
    have h3 : ∀ w ∈ spl 32 t, trO w = true := fun w hw => by
      have := h1 w hw
      rw [(im_tr w).1] at this
      simp only [Bool.and_eq_true] at this
      exact this.1
    refine ⟨h3, ?_⟩
    have e : (spl 32 t).map imF = (spl 32 t).map fun w => mdK (trF w) := List.map_congr_left fun w hw => (im_tr w).2 (h1 w hw)
    rw [← e]; exact h2
theorem rtV_im {t : List Int} (h : rtOk t = true) : rtV t = (wds t).map imF := by
  have h2 := h
  rw [rtOk_im] at h2
  simp only [Bool.and_eq_true, List.all_eq_true] at h2
  have h0 : t ≠ [] := by rintro rfl; cases h
  have ew : wds t = spl 32 t := if_neg h0
  unfold rtV
  rw [if_pos h, ew]
  rw [ew] at h2
  exact List.map_congr_left fun w hw => ((im_tr w).2 (h2.1 w hw)).symm
theorem imO_ok {w : List Int} (h : imO w = true) : okK (imF w) = true := by
  have := (im_tr w).1
  rw [h] at this
  rw [(im_tr w).2 h]
  have h2 := this.symm
  simp only [Bool.and_eq_true] at h2
  exact h2.2
end Go.Proofs.YtpjimhkblldhaaaDoor

