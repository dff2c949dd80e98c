/- Contracts of functions of the translated program, by the walk. -/
import Derived.Test.YtcebmjajnbafoaaGreatDoorRd5
import Derived.Test.YtcebmjajnbafoaaGreatDoorK14
import Derived.Shelf.Strings.Cut
import Derived.Test.YtcebmjajnbafoaaGreatDoorProg
import Derived.KernelRfl
import Derived.Test.YtcebmjajnbafoaaGreatDoorDt5
import Derived.Test.YtcebmjajnbafoaaGreatDoorK4
set_option linter.unusedVariables false
set_option linter.unusedSimpArgs false
set_option maxRecDepth 8000
set_option maxHeartbeats 16000000
namespace Go.Proofs.YtcebmjajnbafoaaGreatDoor
open Go Go.Sx
open Go.Proofs
/-- A text cut at the first such byte. -/
def cutL (c : Int) : List Int → List Int × List Int × Bool
  | [] => ([], [], false)
  | x :: t => if x = c then ([], t, true) else (x :: (cutL c t).1, (cutL c t).2.1, (cutL c t).2.2)
theorem cutL_miss {c : Int} : ∀ {t : List Int}, c ∉ t → cutL c t = (t, [], false)
  | [], _ => rfl
  | x :: t, h => by
    rw [cutL, if_neg (fun e => h (by rw [e]; exact List.mem_cons_self ..)), cutL_miss (fun e => h (List.mem_cons_of_mem _ e))]
theorem cutL_hit {c : Int} {r : List Int} : ∀ {l : List Int}, c ∉ l → cutL c (l ++ c :: r) = (l, r, true)
  | [], _ => by rw [List.nil_append, cutL, if_pos rfl]
  | x :: l, h => by
    rw [List.cons_append, cutL, if_neg (fun e => h (by rw [e]; exact List.mem_cons_self ..)), cutL_hit (fun e => h (List.mem_cons_of_mem _ e))]
theorem cut_lib {c : Int} (hc : 0 ≤ c ∧ c ≤ 255) {t : List Int} (h8 : B8 t) : Lib.cut (u8L t) (u8L [c]) = (u8L (cutL c t).1, u8L (cutL c t).2.1, (cutL c t).2.2) := by
  rcases spl_view c t with ⟨h1, _⟩ | ⟨l, r, h1, h2, _⟩
  · unfold Lib.cut
    rw [index_miss hc h8 h1, if_neg (by decide), cutL_miss h1]
    rfl
  · subst h1
    unfold Lib.cut
    rw [index_hit' hc (B8.left' h8) h2, if_pos (by omega), cutL_hit h2, Int.toNat_natCast]
    have hd : (u8L (l ++ c :: r)).drop (l.length + (u8L [c]).length) = u8L r := by
      rw [u8L_app, ← u8L_len l, List.drop_append]
      simp [u8L]
    have ht : (u8L (l ++ c :: r)).take l.length = u8L l := by
      rw [u8L_app, ← u8L_len l, List.take_left']
      rfl
    rw [hd, ht]
theorem cutL_8 {c : Int} {t : List Int} (h8 : B8 t) : B8 (cutL c t).1 ∧ B8 (cutL c t).2.1 := by
  rcases spl_view c t with ⟨h1, _⟩ | ⟨l, r, h1, h2, _⟩
  · rw [cutL_miss h1]; exact ⟨h8, fun x hx => by cases hx⟩
  · subst h1
    rw [cutL_hit h2]
    exact ⟨B8.left' h8, fun x hx => B8.right' h8 x (List.mem_cons_of_mem _ hx)⟩
theorem cutL_len (c : Int) (t : List Int) : (cutL c t).1.length ≤ t.length ∧ (cutL c t).2.1.length ≤ t.length := by
  rcases spl_view c t with ⟨h1, _⟩ | ⟨l, r, h1, h2, _⟩
  · rw [cutL_miss h1]; simp
  · subst h1
    rw [cutL_hit h2]
    simp; omega
/-- A number with its sign: whether there is one, and what is handed back. -/
def sgO : List Int → Bool
  | [] => false
  | c :: r => if c = 45 then (numN r).isSome && decide (0 < (numN r).getD 0) else (numN (c :: r)).isSome
def sgV : List Int → Int
  | [] => 0
  | c :: r => if c = 45 then 0 - (((numN r).getD 0 : Nat) : Int) else (((numN (c :: r)).getD 0 : Nat) : Int)
theorem sgO_45 (r : List Int) : sgO (45 :: r) = ((numN r).isSome && decide (0 < (numN r).getD 0)) := rfl
theorem sgV_45 (r : List Int) : sgV (45 :: r) = 0 - (((numN r).getD 0 : Nat) : Int) := rfl
theorem sgO_ne {c : Int} (r : List Int) (h : c ≠ 45) : sgO (c :: r) = (numN (c :: r)).isSome := if_neg h
theorem sgV_ne {c : Int} (r : List Int) (h : c ≠ 45) : sgV (c :: r) = (((numN (c :: r)).getD 0 : Nat) : Int) := if_neg h
theorem decT_dig (n : Nat) : ∀ c ∈ decT n, 48 ≤ c ∧ c ≤ 57 := by
  induction n using Nat.strongRecOn with
  | _ n ih =>
    intro c hc
    by_cases h : n < 10
    · rw [decT_small h] at hc
      rw [List.mem_singleton.1 hc]; omega
    · rw [decT_big (by omega)] at hc
      rcases List.mem_append.1 hc with hc | hc
      · exact ih (n / 10) (by omega) c hc
      · rw [List.mem_singleton.1 hc]; omega
theorem decI_not {n c : Int} (hc : 48 > c ∨ 57 < c) (h45 : c ≠ 45) : c ∉ decI n := by
  intro h
  rcases Int.lt_or_le n 0 with h0 | h0
  · obtain ⟨k, hk⟩ : ∃ k : Nat, n = -(k : Int) := ⟨n.natAbs, by omega⟩
    subst hk
    rw [decI_neg (by omega)] at h
    rcases List.mem_cons.1 h with h | h
    · exact h45 h
    · have := decT_dig k c h; omega
  · obtain ⟨k, rfl⟩ := Int.eq_ofNat_of_zero_le h0
    rw [decI_nat] at h
    have := decT_dig k c h; omega
theorem decT_ne45 (k : Nat) : ∃ c r, decT k = c :: r ∧ c ≠ 45 := by
  cases e : decT k with
  | nil => exact absurd e (decT_0 k)
  | cons c r => exact ⟨c, r, rfl, fun h => by have := decT_dig k c (by rw [e]; exact List.mem_cons_self ..); omega⟩
theorem sg_dec {n : Int} (h0 : -1000 < n) (h1 : n < 1000) : sgO (decI n) = true ∧ sgV (decI n) = n := by
  rcases Int.lt_or_le n 0 with h | h
  · obtain ⟨k, hk⟩ : ∃ k : Nat, n = -(k : Int) := ⟨n.natAbs, by omega⟩
    subst hk
    rw [decI_neg (by omega)]
    rw [sgO_45, sgV_45, (numN_iff (n := k) (by omega)).2 rfl]
    simp; omega
  · obtain ⟨k, rfl⟩ := Int.eq_ofNat_of_zero_le h
    have e := (numN_iff (t := decT k) (n := k) (by omega)).2 rfl
    obtain ⟨c, r, e2, h45⟩ := decT_ne45 k
    rw [decI_nat, e2]
    rw [e2] at e
    rw [sgO_ne _ h45, sgV_ne _ h45, e]
    exact ⟨rfl, rfl⟩
theorem sg_is {t : List Int} (h : sgO t = true) (h0 : -1000 < sgV t) (h1 : sgV t < 1000) : t = decI (sgV t) := by
  cases t with
  | nil => cases h
  | cons c r =>
    by_cases hc : c = 45
    · subst hc
      rw [sgO_45] at h
      rw [sgV_45] at h0 h1 ⊢
      cases e : numN r with
      | none => rw [e] at h; cases h
      | some k =>
        rw [e] at h h0 h1
        simp only [Option.getD_some, Option.isSome_some, Bool.true_and, decide_eq_true_eq] at h h0 h1 ⊢
        have e2 := (numN_iff (by omega)).1 e
        rw [show (0 : Int) - (k : Int) = -(k : Int) by omega, decI_neg (by omega), ← e2]
    · rw [sgO_ne _ hc] at h
      rw [sgV_ne _ hc] at h0 h1 ⊢
      cases e : numN (c :: r) with
      | none => rw [e] at h; cases h
      | some k =>
        rw [e] at h0 h1
        simp only [Option.getD_some] at h0 h1 ⊢
        rw [decI_nat]
        exact (numN_iff (by omega)).1 e
/-- What the reference reads of a word: three numbers. -/
def trW (w : List Int) : Option (List Int × List Int × List Int) := match spl 58 w with
  | [a, p] => match spl 44 p with
    | [b, c] => some (a, b, c)
    | _ => none
  | _ => none
def trO (w : List Int) : Bool := match trW w with
  | some (a, b, c) => (numN a).isSome && sgO b && sgO c
  | none => false
def trF (w : List Int) : Nat → Int := match trW w with
  | some (a, b, c) => keyF (((numN a).getD 0 : Nat) : Int) (sgV b) (sgV c)
  | none => fun _ => 0
/-- What the program reads of a word. -/
def imO (w : List Int) : Bool := (cutL 58 w).2.2 && (cutL 44 (cutL 58 w).2.1).2.2 && rdOk (cutL 58 w).1 0 200 && rdOk (cutL 44 (cutL 58 w).2.1).1 (-24) 24 && rdOk (cutL 44 (cutL 58 w).2.1).2.1 (-24) 24
def imF (w : List Int) : Nat → Int := keyF (rdV (cutL 58 w).1) (rdV (cutL 44 (cutL 58 w).2.1).1) (rdV (cutL 44 (cutL 58 w).2.1).2.1)
theorem rd_not {t : List Int} {lo hi c : Int} (hc : 48 > c ∨ 57 < c) (h45 : c ≠ 45) (h : c ∈ t) : rdOk t lo hi = false := by
  rw [Bool.eq_false_iff]
  intro e
  have := (rd_is e).2.2
  rw [this] at h
  exact decI_not hc h45 h
theorem rd_num {a : List Int} : rdOk a 0 200 = ((numN a).isSome && decide ((numN a).getD 0 ≤ 200)) ∧ (rdOk a 0 200 = true → rdV a = (((numN a).getD 0 : Nat) : Int)) := by
  have key : rdOk a 0 200 = true → ∃ k : Nat, numN a = some k ∧ k ≤ 200 ∧ rdV a = k := by
    intro h
    have h1 := rd_is h
    obtain ⟨k, hk⟩ := Int.eq_ofNat_of_zero_le h1.1
    have h3 := h1.2.2
    rw [hk, decI_nat] at h3
    exact ⟨k, (numN_iff (by omega)).2 h3, by omega, hk⟩
  constructor
  · rw [Bool.eq_iff_iff]
    constructor
    · intro h
      obtain ⟨k, e, hk, _⟩ := key h
      rw [e]; simp; exact hk
    · intro h
      simp only [Bool.and_eq_true, decide_eq_true_eq] at h
      cases e : numN a with
      | none => rw [e] at h; cases h.1
      | some k =>
        rw [e] at h
        simp only [Option.getD_some] at h
        have e2 := (numN_iff (by omega)).1 e
        rw [e2, ← decI_nat]
        exact (rd_dec (by omega) (by omega) (by omega) (by omega)).1
  · intro h
    obtain ⟨k, e, hk, e2⟩ := key h
    rw [e, e2]; rfl
theorem rd_sg {a : List Int} : rdOk a (-24) 24 = (sgO a && decide (-24 ≤ sgV a) && decide (sgV a ≤ 24)) ∧ (rdOk a (-24) 24 = true → rdV a = sgV a) := by
  have key : rdOk a (-24) 24 = true → sgO a = true ∧ rdV a = sgV a ∧ -24 ≤ sgV a ∧ sgV a ≤ 24 := by
    intro h
    have h1 := rd_is h
    have h2 := sg_dec (n := rdV a) (by omega) (by omega)
    rw [← h1.2.2] at h2
    exact ⟨h2.1, h2.2.symm, by omega, by omega⟩
  constructor
  · rw [Bool.eq_iff_iff]
    constructor
    · intro h
      obtain ⟨h1, _, h3, h4⟩ := key h
      simp [h1, h3, h4]
    · intro h
      simp only [Bool.and_eq_true, decide_eq_true_eq] at h
      have e := sg_is h.1.1 (by omega) (by omega)
      rw [e]
      exact (rd_dec (by omega) (by omega) (by omega) (by omega)).1
  · intro h; exact (key h).2.1
theorem im_tr (w : List Int) : imO w = (trO w && okK (mdK (trF w))) ∧ (imO w = true → imF w = mdK (trF w)) := by
  have bad : trW w = none → imO w = false → imO w = (trO w && okK (mdK (trF w))) ∧ (imO w = true → imF w = mdK (trF w)) := by
    intro h1 h2
    refine ⟨?_, fun h => by rw [h2] at h; cases h⟩
    unfold trO; rw [h2, h1]; rfl
  rcases spl_view 58 w with ⟨h1, h2⟩ | ⟨l, r, h1, h2, h3⟩
  · apply bad
    · unfold trW; rw [h2]
    · unfold imO; rw [cutL_miss h1]; rfl
  · subst h1
    have ec := cutL_hit (r := r) h2
    rcases spl_view 58 r with ⟨h4, h5⟩ | ⟨l2, r2, h4, h5, h6⟩
    · rcases spl_view 44 r with ⟨h7, h8⟩ | ⟨l3, r3, h7, h8, h9⟩
      · apply bad
        · unfold trW; rw [h3, h5]; simp only; rw [h8]
        · unfold imO; rw [ec]; simp only; rw [cutL_miss h7]; rfl
      · subst h7
        have ec2 := cutL_hit (r := r3) h8
        rcases spl_view 44 r3 with ⟨h10, h11⟩ | ⟨l4, r4, h10, _, h12⟩
        · have eW : trW (l ++ 58 :: (l3 ++ 44 :: r3)) = some (l, l3, r3) := by unfold trW; rw [h3, h5]; simp only; rw [h9, h11]
          have eO : trO (l ++ 58 :: (l3 ++ 44 :: r3)) = ((numN l).isSome && sgO l3 && sgO r3) := by unfold trO; rw [eW]
          have eF : trF (l ++ 58 :: (l3 ++ 44 :: r3)) = keyF (((numN l).getD 0 : Nat) : Int) (sgV l3) (sgV r3) := by unfold trF; rw [eW]
          have eI : imO (l ++ 58 :: (l3 ++ 44 :: r3)) = (rdOk l 0 200 && rdOk l3 (-24) 24 && rdOk r3 (-24) 24) := by unfold imO; rw [ec]; simp only; rw [ec2]; simp
          have eG : imF (l ++ 58 :: (l3 ++ 44 :: r3)) = keyF (rdV l) (rdV l3) (rdV r3) := by unfold imF; rw [ec]; simp only; rw [ec2]
          have hk : okK (mdK (keyF (((numN l).getD 0 : Nat) : Int) (sgV l3) (sgV r3))) = (decide ((numN l).getD 0 ≤ 200) && (decide (-24 ≤ sgV l3) && decide (sgV l3 ≤ 24)) && (decide (-24 ≤ sgV r3) && decide (sgV r3 ≤ 24))) := by
            rw [Bool.eq_iff_iff, okK_iff]
            simp only [mdK, keyF_0, keyF_1, keyF_2, Bool.and_eq_true, decide_eq_true_eq]
            omega
          rw [eI, eO, eF, hk, rd_num.1, rd_sg.1, rd_sg.1, eG]
          refine ⟨?_, fun h => ?_⟩
          · cases (numN l).isSome <;> cases sgO l3 <;> cases sgO r3 <;> simp [Bool.and_assoc]
          · simp only [Bool.and_eq_true] at h
            rw [rd_num.2 (by rw [rd_num.1]; simp only [Bool.and_eq_true]; exact h.1.1), rd_sg.2 (by rw [rd_sg.1]; simp only [Bool.and_eq_true]; exact h.1.2), rd_sg.2 (by rw [rd_sg.1]; simp only [Bool.and_eq_true]; exact h.2)]
            rfl
        · apply bad
          · unfold trW; rw [h3, h5]; simp only; rw [h9, h12]
            cases e : spl 44 r4 with
            | nil => exact absurd e (spl_ne 44 r4)
            | cons => rfl
          · unfold imO; rw [ec]; simp only; rw [ec2]; simp only
            rw [rd_not (c := 44) (t := r3) (by omega) (by omega) (by rw [h10]; simp), Bool.and_false]
    · have e58 : 58 ∈ r := by rw [h4]; simp
      apply bad
      · unfold trW; rw [h3, h6]
        cases e : spl 58 r2 with
        | nil => exact absurd e (spl_ne 58 r2)
        | cons => rfl
      · unfold imO; rw [ec]; simp only
        rcases spl_view 44 r with ⟨h7, _⟩ | ⟨l3, r3, h7, h8, _⟩
        · rw [cutL_miss h7]; rfl
        · rw [h7] at e58
          rw [h7, cutL_hit h8]
          simp only
          rcases List.mem_append.1 e58 with e | e
          · rw [rd_not (c := 58) (t := l3) (by omega) (by omega) e]; simp
          · rcases List.mem_cons.1 e with e | e
            · omega
            · rw [rd_not (c := 58) (t := r3) (by omega) (by omega) e, Bool.and_false]
/-- What ReadTrack reads: the keys, or none. -/
def rtOk (t : List Int) : Bool := (spl 32 t).all trO && tkOk ((spl 32 t).map fun w => mdK (trF w))
def rtV (t : List Int) : List (Nat → Int) := if rtOk t = true then (spl 32 t).map fun w => mdK (trF w) else []
theorem imO_nil : imO [] = false := rfl
theorem splA_sum (c : Int) : ∀ (t acc : List Int), ((splA c acc t).map List.length).sum + (splA c acc t).length = acc.length + t.length + 1
  | [], acc => by simp [splA]
  | x :: t, acc => by
    unfold splA
    split
    · have := splA_sum c t []
      simp only [List.map_cons, List.sum_cons, List.length_cons, List.length_nil] at this ⊢
      omega
    · have := splA_sum c t (acc ++ [x])
      simp only [List.length_append, List.length_cons, List.length_nil] at this ⊢
      omega
theorem sum_ge : ∀ (l : List (List Int)), (∀ w ∈ l, w ≠ []) → l.length ≤ (l.map List.length).sum
  | [], _ => Nat.zero_le _
  | w :: l, h => by
    have h1 := sum_ge l fun x hx => h x (List.mem_cons_of_mem _ hx)
    have h2 := List.length_pos_iff.2 (h w (List.mem_cons_self ..))
    simp only [List.map_cons, List.sum_cons, List.length_cons]
    omega
theorem spl_few {c : Int} {t : List Int} (h : ∀ w ∈ spl c t, w ≠ []) : 2 * (spl c t).length ≤ t.length + 1 := by
  have h1 := splA_sum c t []
  have h2 := sum_ge (spl c t) h
  unfold spl at h2 ⊢
  simp only [List.length_nil] at h1
  omega
theorem wds_few {t : List Int} (h : ∀ w ∈ wds t, w ≠ []) (h0 : t ≠ []) : 2 * (wds t).length ≤ t.length + 1 := by
  have ew : wds t = spl 32 t := if_neg h0
  rw [ew] at h ⊢
  exact spl_few h
theorem rtOk_im (t : List Int) : rtOk t = ((wds t).all imO && tkOk ((wds t).map imF)) := by
  by_cases h0 : t = []
  · subst h0
    rfl
  have ew : wds t = spl 32 t := if_neg h0
  rw [ew]
  rw [Bool.eq_iff_iff]
  unfold rtOk
  simp only [Bool.and_eq_true, List.all_eq_true]
  constructor
  · rintro ⟨h1, h2⟩
    have h3 : ∀ w ∈ spl 32 t, imO w = true := fun w hw => by
      rw [(im_tr w).1, h1 w hw]
      obtain ⟨i, hi, rfl⟩ := List.mem_iff_getElem.1 hw
      have := (tkOk_at h2 (i := i) (by simpa using hi)).1
      simpa using this
    refine ⟨h3, ?_⟩
    have e : (spl 32 t).map imF = (spl 32 t).map fun w => mdK (trF w) := List.map_congr_left fun w hw => (im_tr w).2 (h3 w hw)
    rw [e]; exact h2
  · rintro ⟨h1, h2⟩
    have h3 : ∀ w ∈ spl 32 t, trO w = true := fun w hw => by
      have := h1 w hw
      rw [(im_tr w).1] at this
      simp only [Bool.and_eq_true] at this
      exact this.1
    refine ⟨h3, ?_⟩
    have e : (spl 32 t).map imF = (spl 32 t).map fun w => mdK (trF w) := List.map_congr_left fun w hw => (im_tr w).2 (h1 w hw)
    rw [← e]; exact h2
theorem rtV_im {t : List Int} (h : rtOk t = true) : rtV t = (wds t).map imF := by
  have h2 := h
  rw [rtOk_im] at h2
  simp only [Bool.and_eq_true, List.all_eq_true] at h2
  have h0 : t ≠ [] := by rintro rfl; cases h
  have ew : wds t = spl 32 t := if_neg h0
  unfold rtV
  rw [if_pos h, ew]
  rw [ew] at h2
  exact List.map_congr_left fun w hw => ((im_tr w).2 (h2.1 w hw)).symm
theorem imO_ok {w : List Int} (h : imO w = true) : okK (imF w) = true := by
  have := (im_tr w).1
  rw [h] at this
  rw [(im_tr w).2 h]
  have h2 := this.symm
  simp only [Bool.and_eq_true] at h2
  exact h2.2
end Go.Proofs.YtcebmjajnbafoaaGreatDoor
namespace Go.Proofs.YtcebmjajnbafoaaGreatDoor
open Go Go.Shelf
def lays145_ren : Go.Shelf.Ren := ⟨fun | 145 => 34 | 220 => 72 | 219 => 87 | 217 => 97 | 225 => 98 | 224 => 99 | 267 => 100 | 266 => 115 | 314 => 116 | n => n, fun | 9 => 9 | 4 => 4 | 59 => 56 | 3 => 3 | 5 => 5 | 46 => 107 | 146 => 135 | 51 => 134 | n => n, fun | 1 => 0 | n => n⟩
theorem lays145 : Go.Proofs.Lays.n145 Tryz.prog lays145_ren := {
  mixed := by kernel_rfl
  f145 := Tryz.func34.trans (congrArg some (by kernel_rfl))
  f217 := Tryz.func97.trans (congrArg some (by kernel_rfl))
  f219 := Tryz.func87.trans (congrArg some (by kernel_rfl))
  f220 := Tryz.func72.trans (congrArg some (by kernel_rfl))
  f224 := Tryz.func99.trans (congrArg some (by kernel_rfl))
  f225 := Tryz.func98.trans (congrArg some (by kernel_rfl))
  f266 := Tryz.func115.trans (congrArg some (by kernel_rfl))
  f267 := Tryz.func100.trans (congrArg some (by kernel_rfl))
  f314 := Tryz.func116.trans (congrArg some (by kernel_rfl))
  t3 := Tryz.underlying3
  a3 := Tryz.isAgg3
  z3 := Tryz.sizeOf3
  v3 := Tryz.zeroValue3
  t4 := Tryz.underlying4
  a4 := Tryz.isAgg4
  z4 := Tryz.sizeOf4
  v4 := Tryz.zeroValue4
  t5 := Tryz.underlying5
  a5 := Tryz.isAgg5
  z5 := Tryz.sizeOf5
  v5 := Tryz.zeroValue5
  t9 := Tryz.underlying9
  a9 := Tryz.isAgg9
  z9 := Tryz.sizeOf9
  v9 := Tryz.zeroValue9
  t46 := Tryz.underlying107
  a46 := Tryz.isAgg107
  z46 := Tryz.sizeOf107
  v46 := Tryz.zeroValue107
  t51 := Tryz.underlying134
  a51 := Tryz.isAgg134
  z51 := Tryz.sizeOf134
  v51 := Tryz.zeroValue134
  t59 := Tryz.underlying56
  a59 := Tryz.isAgg56
  z59 := Tryz.sizeOf56
  v59 := Tryz.zeroValue56
  t146 := Tryz.underlying135
  a146 := Tryz.isAgg135
  z146 := Tryz.sizeOf135
  v146 := Tryz.zeroValue135
  g1 := by kernel_rfl }
end Go.Proofs.YtcebmjajnbafoaaGreatDoor
namespace Go.Proofs.YtcebmjajnbafoaaGreatDoor
open Go Go.Sx
open Go.Proofs Go.Shelf
theorem bc58 : (ByteArray.mk #[58]) = bstr [58] := rfl
theorem bc44 : (ByteArray.mk #[44]) = bstr [44] := rfl
theorem cutC {H : List Blk} (hp : PinR H) {t : List Int} {c : Int} (hc : 0 ≤ c ∧ c ≤ 255) (h8 : B8 t) (hl : t.length ≤ 1000000) :
    Cal Tryz.prog 34 [.v (.string (bstr t)), .v (.string (bstr [c]))] H fun u H' => u = .t [.v (.string (bstr (cutL c t).1)), .v (.string (bstr (cutL c t).2.1)), .v (.bool (cutL c t).2.2)] ∧ H' = H := by
  refine cal_below (by kernel_rfl) (r := .t [.v (.string (bstr (cutL c t).1)), .v (.string (bstr (cutL c t).2.1)), .v (.bool (cutL c t).2.2)]) (by simp [go_sem]) fun σ w hw hlt => ?_
  obtain ⟨m, hm⟩ := hp.mx
  have hcl := cut_lib hc h8
  rw [← bstr_u8', ← bstr_u8'] at hcl
  refine (Any.strings_Cut lays145 (bstr t) (bstr [c]) m w (by rw [bstr_size]; omega) (hw.pin_cell hm rfl)).mono ?_
  rintro e w' ⟨rfl, n, rfl⟩
  rw [hcl]
  exact ⟨rfl, ⟨rfl, rfl, rfl, Nat.le_refl _, fun _ _ => rfl⟩⟩
end Go.Proofs.YtcebmjajnbafoaaGreatDoor
namespace Go.Proofs.YtcebmjajnbafoaaGreatDoor
open Go Go.Sx
theorem implReadTrack_ok {H : List Blk} (hp : PinR H) {t : List Int} (h8 : B8 t) (hl : t.length ≤ 1000000) (hO : rtOk t = true) :
    Cal Tryz.prog 7 [.v (.string (bstr t))] H fun u H' => u = .t [.s H.length 0 (rtV t).length (.u 0), .v (.int .i64 0)] ∧ H' = H ++ [⟨(rtV t).flatMap encK, 42, .own 3⟩] := by
  have eV := rtV_im hO
  have hO2 := hO
  rw [rtOk_im] at hO2
  simp only [Bool.and_eq_true, List.all_eq_true] at hO2
  have h0 : t ≠ [] := by rintro rfl; cases hO
  rw [eV]
  have hn0 : ((bstr t).toList = (bstr []).toList) = False := eq_false (by rw [bstr_toL, bstr_toL]; intro h; exact h0 (u8L_inj h8 (fun x hx => by cases hx) h))
  have hwl := wds_len t
  have h8w := wds_8 h8
  have hlw := wds_wlen t
  obtain ⟨W, hW⟩ : ∃ W, W = wds t := ⟨_, rfl⟩
  rw [← hW] at hwl h8w hlw
  refine cal_fn 83 mixed Tryz.func7 Tryz.ntmps7 Tryz.results7 rfl rfl rfl fun hw cx hx hq => ?_
  repeat (first | (simp only [go_sem, Int.reduceLT, Int.reduceLE, Int.reduceEq, Int.reduceToNat, ← hW]) | ((with_reducible refine And.intro ?_ ?_); omega) | ((with_reducible refine isSK ?_); first | (refine call_ret (wordsC (by first | exact hp | exact hp.app) h8 hl h0) (by simp only [go_sem, Int.reduceLT, Int.reduceLE, Int.reduceEq, Int.reduceToNat, ← hW]) ?_)) | ((with_reducible refine And.intro ?_ ?_); first | (with_reducible rfl) | assumption | (simp only [go_sem]; done)))
  have hn1 : norefH H.length H := norefH_wf hw (Nat.le_refl _)
  refine WK_for (fun n : Nat => ⟨[.any, .any, .any, .any, .s H.length 0 n (.u 0), .any, .any, .any, .any, .any, .any, .any, .any, .any, .any, .any, .any, .any, .any, .any, .any, .s (H.length + 1) 0 W.length (.u 0), .v (.int .i64 W.length), .v (.int .i64 n)] ++ junk 60, H ++ [⟨((W.take n).map imF).flatMap encK, 42, .own 3⟩, ⟨W.flatMap sC, 9, .own 1⟩]⟩) (fun n => n ≤ W.length ∧ ∀ w ∈ W.take n, imO w = true) (fun n => W.length - n) 0 (Weak.slots ?_) ?_ fun n hn => ?_
  · simp [go_sem]
  · simp
  have hfl : (((W.take n).map imF).flatMap encK).length = n * 3 := by rw [flat_encK.flen, List.length_map, List.length_take, Nat.min_eq_left hn.1]
  have hfw : (W.flatMap sC).length = W.length := by rw [flat_sC.flen, Nat.mul_one]
  have hn2 : norefs H.length (((W.take n).map imF).flatMap encK) = true := flat_encK.norefs _ _
  have hn3 : norefs H.length (W.flatMap sC) = true := flat_sC.norefs _ _
  have hd1 : (H.length + 1 = H.length) = False := eq_false (by omega)
  have hd2 : (H.length = H.length + 1) = False := eq_false (by omega)
  rw [← hW] at hO2
  rcases Int.lt_or_le (n : Int) W.length with hc | hc
  · skip
    have hj : n < W.length := by omega
    have hwm := List.getElem_mem hj
    have hat : At (H ++ [⟨((W.take n).map imF).flatMap encK, 42, .own 3⟩, ⟨W.flatMap sC, 9, .own 1⟩]) (H.length + 1) 0 (W.flatMap sC) ⟨W.flatMap sC, 9, .own 1⟩ := by first | exact At.mk0 rfl | exact At.mk' 1 rfl rfl | exact At.mk' 2 rfl rfl | exact At.mk' 3 rfl rfl | exact At.mk' 4 rfl rfl | exact At.mk' 5 rfl rfl | exact At.mk' 6 rfl rfl | exact At.mk' 7 rfl rfl | exact At.mk' 8 rfl rfl | exact At.mk' 9 rfl rfl | exact At.mk' 10 rfl rfl | exact At.mk' 11 rfl rfl | exact At.mk' 12 rfl rfl | exact At.mk' 13 rfl rfl | exact At.mk' 14 rfl rfl | exact At.mk' 15 rfl rfl
    have hz := hat.str hj
    simp only [Nat.zero_add] at hz
    have x8 := h8w _ hwm
    have xl := hlw _ hwm
    obtain ⟨a8, p8⟩ := cutL_8 (c := 58) x8
    obtain ⟨al, pl⟩ := cutL_len 58 W[n]
    obtain ⟨b8, c8⟩ := cutL_8 (c := 44) p8
    obtain ⟨bl, cl⟩ := cutL_len 44 (cutL 58 W[n]).2.1
    have eb := hO2.1 _ hwm
    · skip
      have e1 : (cutL 58 W[n]).2.2 = true ∧ (cutL 44 (cutL 58 W[n]).2.1).2.2 = true ∧ rdOk (cutL 58 W[n]).1 0 200 = true ∧ rdOk (cutL 44 (cutL 58 W[n]).2.1).1 (-24) 24 = true ∧ rdOk (cutL 44 (cutL 58 W[n]).2.1).2.1 (-24) 24 = true := by
        have := eb
        unfold imO at this
        simp only [Bool.and_eq_true] at this
        exact ⟨this.1.1.1.1, this.1.1.1.2, this.1.1.2, this.1.2, this.2⟩
      obtain ⟨o1, o2, o3, o4, o5⟩ := e1
      have pk : (0 ≤ rdV (cutL 58 W[n]).1 ∧ rdV (cutL 58 W[n]).1 ≤ 200) ∧ (-24 ≤ rdV (cutL 44 (cutL 58 W[n]).2.1).1 ∧ rdV (cutL 44 (cutL 58 W[n]).2.1).1 ≤ 24) ∧ (-24 ≤ rdV (cutL 44 (cutL 58 W[n]).2.1).2.1 ∧ rdV (cutL 44 (cutL 58 W[n]).2.1).2.1 ≤ 24) := okK_iff.1 (imO_ok eb)
      have hall : ∀ w ∈ W.take (n + 1), imO w = true := by
        intro w hw2
        rw [List.take_succ_eq_append_getElem hj] at hw2
        rcases List.mem_append.1 hw2 with hw2 | hw2
        · exact hn.2 w hw2
        · rw [List.mem_singleton.1 hw2]; exact eb
      have e3 : ((W.take (n + 1)).map imF).flatMap encK = ((W.take n).map imF).flatMap encK ++ encK (keyF (rdV (cutL 58 W[n]).1) (rdV (cutL 44 (cutL 58 W[n]).2.1).1) (rdV (cutL 44 (cutL 58 W[n]).2.1).2.1)) := by
        rw [map_take' _ _ _ hj, flat_snoc]; rfl
      repeat (first | (simp only [go_sem, Int.reduceLT, Int.reduceLE, Int.reduceEq, Int.reduceToNat, hc, hz, hfl, hfw, bc58, bc44, o1, o2, o3, o4, o5, hn1, hn2, hn3, hd1, hd2, hx, encK_len]) | ((with_reducible refine And.intro ?_ ?_); omega) | ((with_reducible refine isSK ?_); first | (refine call_ret (cutC (by first | exact hp | exact hp.app) (c := 58) (by omega) x8 (by omega)) (by simp only [go_sem, Int.reduceLT, Int.reduceLE, Int.reduceEq, Int.reduceToNat, hc, hz, hfl, hfw, bc58, bc44, o1, o2, o3, o4, o5, hn1, hn2, hn3, hd1, hd2, hx, encK_len]) ?_) | (refine call_ret (cutC (by first | exact hp | exact hp.app) (c := 44) (by omega) p8 (by omega)) (by simp only [go_sem, Int.reduceLT, Int.reduceLE, Int.reduceEq, Int.reduceToNat, hc, hz, hfl, hfw, bc58, bc44, o1, o2, o3, o4, o5, hn1, hn2, hn3, hd1, hd2, hx, encK_len]) ?_) | (refine call_ret (readDec (by first | exact hp | exact hp.app) a8 (by omega) (by omega) (by omega)) (by simp only [go_sem, Int.reduceLT, Int.reduceLE, Int.reduceEq, Int.reduceToNat, hc, hz, hfl, hfw, bc58, bc44, o1, o2, o3, o4, o5, hn1, hn2, hn3, hd1, hd2, hx, encK_len]) ?_) | (refine call_ret (readDec (by first | exact hp | exact hp.app) b8 (by omega) (by omega) (by omega)) (by simp only [go_sem, Int.reduceLT, Int.reduceLE, Int.reduceEq, Int.reduceToNat, hc, hz, hfl, hfw, bc58, bc44, o1, o2, o3, o4, o5, hn1, hn2, hn3, hd1, hd2, hx, encK_len]) ?_) | (refine call_ret (readDec (by first | exact hp | exact hp.app) c8 (by omega) (by omega) (by omega)) (by simp only [go_sem, Int.reduceLT, Int.reduceLE, Int.reduceEq, Int.reduceToNat, hc, hz, hfl, hfw, bc58, bc44, o1, o2, o3, o4, o5, hn1, hn2, hn3, hd1, hd2, hx, encK_len]) ?_) | (refine call_ret (keyAt (by omega) (by omega) (by omega)) (by simp only [go_sem, Int.reduceLT, Int.reduceLE, Int.reduceEq, Int.reduceToNat, hc, hz, hfl, hfw, bc58, bc44, o1, o2, o3, o4, o5, hn1, hn2, hn3, hd1, hd2, hx, encK_len]) ?_)) | ((with_reducible refine And.intro ?_ ?_); first | (with_reducible rfl) | assumption | (simp only [go_sem]; done)))
      refine EK_again (n + 1) ?_ ⟨by omega, hall⟩ (by omega)
      rw [e3]
      exact Weak.keepN rfl (by simp [go_sem] <;> omega) (by simp [hx]) (by simp [go_sem, flat_sC.lts, flat_encK.lts, sC] <;> omega) (hw.app (by simp [go_sem, flat_sC.lts, flat_encK.lts, sC] <;> omega))
  · have : n = W.length := by omega
    subst this
    rw [List.take_length] at hfl hn2 ⊢
    have hK : ∀ a ∈ W.map imF, KyW a := fun a ha => by
      obtain ⟨w, hw2, rfl⟩ := List.mem_map.1 ha
      exact okK_KyW (imO_ok (hO2.1 w hw2))
    have hfew := wds_few (t := t) (fun w hw2 e => by subst e; rw [← hW] at hw2; have := hO2.1 _ hw2; rw [imO_nil] at this; cases this) h0
    rw [← hW] at hfew
    repeat (first | (simp only [go_sem, Int.reduceLT, Int.reduceLE, Int.reduceEq, Int.reduceToNat, Int.not_lt.2 hc, hfl, hfw, hO2.2]) | ((with_reducible refine And.intro ?_ ?_); omega) | ((with_reducible refine isSK ?_); first | (refine call_ret (validTrack (l := W.map imF) (by first | exact h | exact h.app | exact he | exact he.app | exact h2e | exact h2e.app |  exact h2 | exact h2.app | exact Rd.fill0 rfl (by rfl) (by first | rfl | simp | omega) | exact Rd.own0 rfl (by rfl) (by first | rfl | simp | omega) | exact Rd.nil _ _ | exact Rd.nilE (by assumption) | exact Rd.fill 1 rfl (by rfl) (by first | rfl | simp | omega) | exact Rd.own 1 rfl (by rfl) (by first | rfl | simp | omega) | exact Rd.fill 2 rfl (by rfl) (by first | rfl | simp | omega) | exact Rd.own 2 rfl (by rfl) (by first | rfl | simp | omega) | exact Rd.fill 3 rfl (by rfl) (by first | rfl | simp | omega) | exact Rd.own 3 rfl (by rfl) (by first | rfl | simp | omega) | exact Rd.fill 4 rfl (by rfl) (by first | rfl | simp | omega) | exact Rd.own 4 rfl (by rfl) (by first | rfl | simp | omega) | exact Rd.fill 5 rfl (by rfl) (by first | rfl | simp | omega) | exact Rd.own 5 rfl (by rfl) (by first | rfl | simp | omega) | exact Rd.fill 6 rfl (by rfl) (by first | rfl | simp | omega) | exact Rd.own 6 rfl (by rfl) (by first | rfl | simp | omega) | exact Rd.fill 7 rfl (by rfl) (by first | rfl | simp | omega) | exact Rd.own 7 rfl (by rfl) (by first | rfl | simp | omega) | exact Rd.fill 8 rfl (by rfl) (by first | rfl | simp | omega) | exact Rd.own 8 rfl (by rfl) (by first | rfl | simp | omega) | exact Rd.fill 9 rfl (by rfl) (by first | rfl | simp | omega) | exact Rd.own 9 rfl (by rfl) (by first | rfl | simp | omega) | exact Rd.fill 10 rfl (by rfl) (by first | rfl | simp | omega) | exact Rd.own 10 rfl (by rfl) (by first | rfl | simp | omega) | exact Rd.fill 11 rfl (by rfl) (by first | rfl | simp | omega) | exact Rd.own 11 rfl (by rfl) (by first | rfl | simp | omega) | exact Rd.fill 12 rfl (by rfl) (by first | rfl | simp | omega) | exact Rd.own 12 rfl (by rfl) (by first | rfl | simp | omega) | exact Rd.fill 13 rfl (by rfl) (by first | rfl | simp | omega) | exact Rd.own 13 rfl (by rfl) (by first | rfl | simp | omega) | exact Rd.fill 14 rfl (by rfl) (by first | rfl | simp | omega) | exact Rd.own 14 rfl (by rfl) (by first | rfl | simp | omega) | exact Rd.fill 15 rfl (by rfl) (by first | rfl | simp | omega) | exact Rd.own 15 rfl (by rfl) (by first | rfl | simp | omega)) hK (by rw [List.length_map]; omega)) (by simp only [go_sem, Int.reduceLT, Int.reduceLE, Int.reduceEq, Int.reduceToNat, Int.not_lt.2 hc, hfl, hfw, hO2.2]) ?_)) | ((with_reducible refine And.intro ?_ ?_); first | (with_reducible rfl) | assumption | (simp only [go_sem]; done)))
    refine ret_one hq hw _ (.inl rfl) 0 rfl (of_eq_true (flat_encK.lts _ _)) (.t [.s H.length 0 (W.map imF).length (.u 0), .v (.int .i64 0)]) (by simp [go_sem]) ?_
    simp [go_sem, conc, concs, upσ, Cap.val, hW]
end Go.Proofs.YtcebmjajnbafoaaGreatDoor
namespace Go.Proofs.YtcebmjajnbafoaaGreatDoor
open Go Go.Sx
theorem bs44 : (ByteArray.mk #[44]) = bstr [44] := rfl
theorem bs58 : (ByteArray.mk #[58]) = bstr [58] := rfl
/-- A key's text. -/
def keyT (a : Nat → Int) : List Int := decI (a 0) ++ [58] ++ decI (a 1) ++ [44] ++ decI (a 2)
theorem keyT_len {a : Nat → Int} (h : okK a = true) : (keyT a).length ≤ 11 := by
  have := okK_iff.1 h
  have h0 := decI_len (i := a 0) (by omega) (by omega)
  have h1 := decI_len (i := a 1) (by omega) (by omega)
  have h2 := decI_len (i := a 2) (by omega) (by omega)
  simp only [keyT, List.length_append, List.length_singleton]
  omega
def trkL (l : List (Nat → Int)) : List (List Int) := l.map keyT
def trkT (l : List (Nat → Int)) : List Int := jnT [32] (trkL l)
theorem trkL_len (l : List (Nat → Int)) : (trkL l).length = l.length := by simp [trkL]
theorem trkL_succ {l : List (Nat → Int)} {n : Nat} (h : n < l.length) : trkL (l.take (n + 1)) = trkL (l.take n) ++ [keyT l[n]] := by
  unfold trkL; rw [List.take_succ_eq_append_getElem h, List.map_append]; rfl
theorem trkT_len {l : List (Nat → Int)} (h : ∀ a ∈ l, okK a = true) : (trkT l).length ≤ 12 * l.length := by
  have h1 := jnT_len (s := [32]) (k := 12) (xs := trkL l) (by
    intro x hx
    unfold trkL at hx
    obtain ⟨a, ha, rfl⟩ := List.mem_map.1 hx
    have := keyT_len (h a ha)
    simp; omega)
  rw [trkL_len] at h1
  exact h1
theorem trkL_nil : trkL [] = [] := rfl
/-- What TrackText answers. -/
def ttT (l : List (Nat → Int)) : List Int := if tkOk l = true then trkT l else []
end Go.Proofs.YtcebmjajnbafoaaGreatDoor
namespace Go.Proofs.YtcebmjajnbafoaaGreatDoor
open Go Go.Sx
theorem implTrackText {H : List Blk} {v : V} {l : List (Nat → Int)} (hp : Pow H) (h : Rd H v encK l) (hK : ∀ a ∈ l, KyW a) (hl : l.length ≤ 1000000) :
    Cal Tryz.prog 8 [v] H fun u H' => u = .v (.string (bstr (ttT l))) ∧ H' = H := by
  have hsol := h.solid
  have hL := h.lenV (P := Tryz.prog) slTy25
  cases e : tkOk l
  · have e2 : ttT l = [] := if_neg (by rw [e]; decide)
    refine cal_fn 37 mixed Tryz.func8 Tryz.ntmps8 Tryz.results8 rfl rfl rfl fun hw cx hx hq => ?_
    repeat (first | (simp only [go_sem, Int.reduceLT, Int.reduceLE, Int.reduceEq, Int.reduceToNat, hsol, hL, e, bs0]) | ((with_reducible refine And.intro ?_ ?_); omega) | ((with_reducible refine isSK ?_); first | (refine call_ret (validTrack h hK hl) (by simp only [go_sem, Int.reduceLT, Int.reduceLE, Int.reduceEq, Int.reduceToNat, hsol, hL, e, bs0]) ?_)) | ((with_reducible refine isMC ?_); first | (refine mcall_ret (validTrack h hK hl) (by simp only [go_sem, Int.reduceLT, Int.reduceLE, Int.reduceEq, Int.reduceToNat, hsol, hL, e, bs0]) (by simp only [go_sem, Int.reduceLT, Int.reduceLE, Int.reduceEq, Int.reduceToNat, hsol, hL, e, bs0]) ?_)) | ((with_reducible refine isWKr (id := 7) ?_); refine WK_drawUp 7 [[],[],[1],[1,2],[1,2,3],[1,2,3,4],[],[6],[6,7],[1,2,3,4,6,7,8],[1,2,3,4,5,6,7,8,9],[1,2,3,4,5,6,7,8,9,10],[],[12],[12,13],[1,2,3,4,6,7,8,9,12,13,14],[1,2,3,4,5,6,7,8,9,10,11,12,13,14,15],[1,2,3,4,5,6,7,8,9,10,11,12,13,14,15,16],[0,1,2,3,4,5,6,7,8,9,10,11,12,13,14,15,16,17],[0,1,2,3,4,5,6,7,8,9,10,11,12,13,14,15,16,17,18]] 18 (by kernel_rfl) ?_; dsimp only [List.take, List.drop]) | ((with_reducible refine And.intro ?_ ?_); first | (with_reducible rfl) | assumption | (simp only [go_sem]; done)))
    refine ret_same hq _ (.inl rfl) ?_
    simp [go_sem, e2]
  have e2 : ttT l = trkT l := if_pos e
  have hv := e
  have hlen := tkOk_len hv
  refine cal_fn 37 mixed Tryz.func8 Tryz.ntmps8 Tryz.results8 rfl rfl rfl fun hw cx hx hq => ?_
  repeat (first | (simp only [go_sem, Int.reduceLT, Int.reduceLE, Int.reduceEq, Int.reduceToNat, hsol, hL, e, bs0]) | ((with_reducible refine And.intro ?_ ?_); omega) | ((with_reducible refine isSK ?_); first | (refine call_ret (validTrack h hK hl) (by simp only [go_sem, Int.reduceLT, Int.reduceLE, Int.reduceEq, Int.reduceToNat, hsol, hL, e, bs0]) ?_)) | ((with_reducible refine isMC ?_); first | (refine mcall_ret (validTrack h hK hl) (by simp only [go_sem, Int.reduceLT, Int.reduceLE, Int.reduceEq, Int.reduceToNat, hsol, hL, e, bs0]) (by simp only [go_sem, Int.reduceLT, Int.reduceLE, Int.reduceEq, Int.reduceToNat, hsol, hL, e, bs0]) ?_)) | ((with_reducible refine isWKr (id := 7) ?_); refine WK_drawUp 7 [[],[],[1],[1,2],[1,2,3],[1,2,3,4],[],[6],[6,7],[1,2,3,4,6,7,8],[1,2,3,4,5,6,7,8,9],[1,2,3,4,5,6,7,8,9,10],[],[12],[12,13],[1,2,3,4,6,7,8,9,12,13,14],[1,2,3,4,5,6,7,8,9,10,11,12,13,14,15],[1,2,3,4,5,6,7,8,9,10,11,12,13,14,15,16],[0,1,2,3,4,5,6,7,8,9,10,11,12,13,14,15,16,17],[0,1,2,3,4,5,6,7,8,9,10,11,12,13,14,15,16,17,18]] 18 (by kernel_rfl) ?_; dsimp only [List.take, List.drop]) | ((with_reducible refine And.intro ?_ ?_); first | (with_reducible rfl) | assumption | (simp only [go_sem]; done)))
  refine WK_for (fun n : Nat => ⟨[.any, .any, .any, .s H.length 0 n (.u 0), .any, .any, .any, .any, .any, .any, v, .v (.int .i64 l.length), .v (.int .i64 n)] ++ junk 25, H ++ [⟨(trkL (l.take n)).flatMap sC, 9, .own 1⟩]⟩) (fun n => n ≤ l.length) (fun n => l.length - n) 0 (Weak.slots ?_) (Nat.zero_le _) fun n hn => ?_
  · simp [go_sem, trkL_nil]
  have hfl : ((trkL (l.take n)).flatMap sC).length = n := by rw [flat_sC.flen, Nat.mul_one, trkL_len, List.length_take]; omega
  have hn1 : norefH H.length H := norefH_wf hw (Nat.le_refl _)
  have hn2 : norefs H.length ((trkL (l.take n)).flatMap sC) = true := flat_sC.norefs _ _
  have hd1 : (H.length + 1 = H.length) = False := eq_false (by omega)
  have hd3 : (H.length + 2 = H.length) = False := eq_false (by omega)
  rcases Int.lt_or_le (n : Int) l.length with hc | hc
  · skip
    have hj : n < l.length := by omega
    obtain ⟨i, off, c, b, rfl, hat, hfit⟩ := h.full (by omega)
    have hlt := hat.lt
    have g2 : ∀ L : List Blk, (H ++ L)[i]? = some b := fun L => get_app hat.get
    have pa := hat.elem encK 3 encK_len hj
    have pe : At H i (off + n * 3) (rowK kK 3 l[n]) b := hat.el encK_len hj
    have pf := hat.fits encK 3 encK_len hj (by omega)
    have c0 : cel b.cells (off + n * 3) = .v (.int .i16 (l[n] 0)) := pe.celK (j := 0) (by omega)
    have c1 : cel b.cells (off + n * 3 + 1) = .v (.int .i8 (l[n] 1)) := pe.celK (j := 1) (by omega)
    have c2 : cel b.cells (off + n * 3 + 2) = .v (.int .i8 (l[n] 2)) := pe.celK (j := 2) (by omega)
    simp only [Nat.add_assoc] at c1 c2
    have pk := okK_iff.1 (tkOk_at hv hj).1
    have hKT := keyT_len (tkOk_at hv hj).1
    have d0 := decI_len (i := l[n] 0) (by omega) (by omega)
    have d1 := decI_len (i := l[n] 1) (by omega) (by omega)
    have d2 := decI_len (i := l[n] 2) (by omega) (by omega)
    have hd2 : (i = H.length) = False := eq_false (by omega)
    have hkT : keyT l[n] = decI (l[n] 0) ++ 58 :: (decI (l[n] 1) ++ 44 :: decI (l[n] 2)) := by simp [keyT]
    repeat (first | (simp only [go_sem, Int.reduceLT, Int.reduceLE, Int.reduceEq, Int.reduceToNat, hc, hat.get, g2, hat.live, hlt, pa, pf, celK0, celK1, celK2, encK_len, hfl, hn1, hn2, hd1, hd2, hd3, hx, bs44, bs58, bstr_app, bstr_size, List.length_append, List.length_singleton, List.length_nil]) | ((with_reducible refine And.intro ?_ ?_); omega) | ((with_reducible refine isSK ?_); first | (refine call_ret (decimalG (by first | exact hp | exact hp.app) (by omega) (by omega)) (by simp only [go_sem, Int.reduceLT, Int.reduceLE, Int.reduceEq, Int.reduceToNat, hc, hat.get, g2, hat.live, hlt, pa, pf, celK0, celK1, celK2, encK_len, hfl, hn1, hn2, hd1, hd2, hd3, hx, bs44, bs58, bstr_app, bstr_size, List.length_append, List.length_singleton, List.length_nil]) ?_)) | ((with_reducible refine isMC ?_); first | (refine mcall_ret (decimalG (by first | exact hp | exact hp.app) (by omega) (by omega)) (by simp only [go_sem, Int.reduceLT, Int.reduceLE, Int.reduceEq, Int.reduceToNat, hc, hat.get, g2, hat.live, hlt, pa, pf, celK0, celK1, celK2, encK_len, hfl, hn1, hn2, hd1, hd2, hd3, hx, bs44, bs58, bstr_app, bstr_size, List.length_append, List.length_singleton, List.length_nil]) (by simp only [go_sem, Int.reduceLT, Int.reduceLE, Int.reduceEq, Int.reduceToNat, hc, hat.get, g2, hat.live, hlt, pa, pf, celK0, celK1, celK2, encK_len, hfl, hn1, hn2, hd1, hd2, hd3, hx, bs44, bs58, bstr_app, bstr_size, List.length_append, List.length_singleton, List.length_nil]) ?_)) | ((with_reducible refine isWKr (id := 7) ?_); refine WK_drawUp 7 [[],[],[1],[1,2],[1,2,3],[1,2,3,4],[],[6],[6,7],[1,2,3,4,6,7,8],[1,2,3,4,5,6,7,8,9],[1,2,3,4,5,6,7,8,9,10],[],[12],[12,13],[1,2,3,4,6,7,8,9,12,13,14],[1,2,3,4,5,6,7,8,9,10,11,12,13,14,15],[1,2,3,4,5,6,7,8,9,10,11,12,13,14,15,16],[0,1,2,3,4,5,6,7,8,9,10,11,12,13,14,15,16,17],[0,1,2,3,4,5,6,7,8,9,10,11,12,13,14,15,16,17,18]] 18 (by kernel_rfl) ?_; dsimp only [List.take, List.drop]) | ((with_reducible refine And.intro ?_ ?_); first | (with_reducible rfl) | assumption | (simp only [go_sem]; done)))
    refine EK_again (n + 1) ?_ (by omega) (by omega)
    rw [trkL_succ hj, List.flatMap_append, List.flatMap_singleton, sC, hkT]
    exact Weak.keepN rfl (by simp [go_sem] <;> omega) (by simp [hx]) (by simp [go_sem, hlt, flat_sC.lts, sC] <;> omega) (hw.app (by simp [go_sem, hlt, flat_sC.lts, sC] <;> omega))
  · have : n = l.length := by omega
    subst this
    rw [List.take_length] at hfl hn2 ⊢
    have hjl := trkT_len (l := l) fun a ha => by
        obtain ⟨j, hj2, rfl⟩ := List.mem_iff_getElem.1 ha
        exact (tkOk_at hv hj2).1
    have hjn := join_len [32] (trkL l)
    have hjl2 : (jnT [32] (trkL l)).length ≤ 12 * l.length := hjl
    repeat (first | (simp only [go_sem, Int.reduceLT, Int.reduceLE, Int.reduceEq, Int.reduceToNat, Int.not_lt.2 hc, hfl, bs32]) | ((with_reducible refine And.intro ?_ ?_); omega) | ((with_reducible refine isSK ?_); first | (refine call_ret (joinC (xs := trkL l) (sep := [32]) (by first | exact (Go.Sx.get_at0 _ _).trans rfl | exact (Go.Sx.get_at _ _ 1).trans rfl | exact (Go.Sx.get_at _ _ 2).trans rfl | exact (Go.Sx.get_at _ _ 3).trans rfl | exact (Go.Sx.get_at _ _ 4).trans rfl | exact (Go.Sx.get_at _ _ 5).trans rfl | exact (Go.Sx.get_at _ _ 6).trans rfl | exact (Go.Sx.get_at _ _ 7).trans rfl | exact (Go.Sx.get_at _ _ 8).trans rfl | exact (Go.Sx.get_at _ _ 9).trans rfl | exact (Go.Sx.get_at _ _ 10).trans rfl | exact (Go.Sx.get_at _ _ 11).trans rfl | exact (Go.Sx.get_at _ _ 12).trans rfl | exact (Go.Sx.get_at _ _ 13).trans rfl | exact (Go.Sx.get_at _ _ 14).trans rfl | exact (Go.Sx.get_at _ _ 15).trans rfl) (by rw [trkL_len]) (.inr rfl) (by omega) (by rw [trkL_len]; omega)) (by simp only [go_sem, Int.reduceLT, Int.reduceLE, Int.reduceEq, Int.reduceToNat, Int.not_lt.2 hc, hfl, bs32]) ?_)) | ((with_reducible refine isMC ?_); first | (refine mcall_ret (joinC (xs := trkL l) (sep := [32]) (by first | exact (Go.Sx.get_at0 _ _).trans rfl | exact (Go.Sx.get_at _ _ 1).trans rfl | exact (Go.Sx.get_at _ _ 2).trans rfl | exact (Go.Sx.get_at _ _ 3).trans rfl | exact (Go.Sx.get_at _ _ 4).trans rfl | exact (Go.Sx.get_at _ _ 5).trans rfl | exact (Go.Sx.get_at _ _ 6).trans rfl | exact (Go.Sx.get_at _ _ 7).trans rfl | exact (Go.Sx.get_at _ _ 8).trans rfl | exact (Go.Sx.get_at _ _ 9).trans rfl | exact (Go.Sx.get_at _ _ 10).trans rfl | exact (Go.Sx.get_at _ _ 11).trans rfl | exact (Go.Sx.get_at _ _ 12).trans rfl | exact (Go.Sx.get_at _ _ 13).trans rfl | exact (Go.Sx.get_at _ _ 14).trans rfl | exact (Go.Sx.get_at _ _ 15).trans rfl) (by rw [trkL_len]) (.inr rfl) (by omega) (by rw [trkL_len]; omega)) (by simp only [go_sem, Int.reduceLT, Int.reduceLE, Int.reduceEq, Int.reduceToNat, Int.not_lt.2 hc, hfl, bs32]) (by simp only [go_sem, Int.reduceLT, Int.reduceLE, Int.reduceEq, Int.reduceToNat, Int.not_lt.2 hc, hfl, bs32]) ?_)) | ((with_reducible refine isWKr (id := 7) ?_); refine WK_drawUp 7 [[],[],[1],[1,2],[1,2,3],[1,2,3,4],[],[6],[6,7],[1,2,3,4,6,7,8],[1,2,3,4,5,6,7,8,9],[1,2,3,4,5,6,7,8,9,10],[],[12],[12,13],[1,2,3,4,6,7,8,9,12,13,14],[1,2,3,4,5,6,7,8,9,10,11,12,13,14,15],[1,2,3,4,5,6,7,8,9,10,11,12,13,14,15,16],[0,1,2,3,4,5,6,7,8,9,10,11,12,13,14,15,16,17],[0,1,2,3,4,5,6,7,8,9,10,11,12,13,14,15,16,17,18]] 18 (by kernel_rfl) ?_; dsimp only [List.take, List.drop]) | ((with_reducible refine And.intro ?_ ?_); first | (with_reducible rfl) | assumption | (simp only [go_sem]; done)))
    refine ret_cut hq hw _ (.inl rfl) ?_
    simp [go_sem, e2, joinT_eq, trkT]
end Go.Proofs.YtcebmjajnbafoaaGreatDoor
