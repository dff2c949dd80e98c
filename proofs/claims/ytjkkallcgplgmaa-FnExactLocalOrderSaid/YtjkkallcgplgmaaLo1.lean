/- Contracts of functions of the translated program, by the walk. -/
import Derived.Test.YtjkkallcgplgmaaD4
import Derived.Test.YtjkkallcgplgmaaLD
set_option linter.unusedVariables false
set_option linter.unusedSimpArgs false
set_option maxRecDepth 8000
set_option maxHeartbeats 4000000
namespace Go.Proofs.Ytjkkallcgplgmaa
open Go Go.Sx
theorem jumpF_sym (f g : Nat → Int) : jumpF f g = jumpF g f := by
  unfold jumpF
  have : xorF f g = xorF g f := by
    funext j
    unfold xorF
    show IntKind.u16.wrap ((BitVec.ofInt 16 (f j) ^^^ BitVec.ofInt 16 (g j)).toNat : Int) = IntKind.u16.wrap ((BitVec.ofInt 16 (g j) ^^^ BitVec.ofInt 16 (f j)).toNat : Int)
    rw [BitVec.xor_comm]
  rw [this]
/-- The jumps of a list of pages, one after the other. -/
def psL : List (Nat → Int) → Int
  | [] => 0
  | a :: r => (match r with | [] => 0 | b :: _ => jumpF a b) + psL r
def brO : Option (Nat → Int) → Option (Nat → Int) → Int
  | some a, some b => jumpF a b
  | _, _ => 0
theorem brO_sym (x y : Option (Nat → Int)) : brO x y = brO y x := by
  cases x <;> cases y <;> simp [brO]
  exact jumpF_sym _ _
theorem psL_cons (a : Nat → Int) (r : List (Nat → Int)) : psL (a :: r) = brO (some a) r.head? + psL r := by
  cases r <;> rfl
theorem psL_app : ∀ A B : List (Nat → Int), psL (A ++ B) = psL A + brO A.getLast? B.head? + psL B
  | [], B => by simp [psL, brO]
  | a :: A, B => by
    have ih := psL_app A B
    rw [List.cons_append, psL_cons, psL_cons, ih]
    cases A with
    | nil => simp [psL, brO]
    | cons b A =>
      have e1 : (b :: A ++ B).head? = (b :: A).head? := rfl
      have e2 : (a :: b :: A).getLast? = (b :: A).getLast? := by simp [List.getLast?_cons_cons]
      rw [e1, e2]; omega
theorem psL_rev : ∀ A : List (Nat → Int), psL A.reverse = psL A
  | [] => rfl
  | a :: A => by
    rw [List.reverse_cons, psL_app, psL_rev A, psL_cons, List.getLast?_reverse]
    have : brO A.head? [a].head? = brO (some a) A.head? := by rw [brO_sym]; rfl
    rw [this]
    have h0 : brO (some a) ([] : List (Nat → Int)).head? + psL [] = 0 := rfl
    rw [h0, psL_cons a A]; omega
theorem psL_mid (A S C : List (Nat → Int)) (hS : S ≠ []) : psL (A ++ (S ++ C)) = psL A + brO A.getLast? S.head? + psL S + brO S.getLast? C.head? + psL C := by
  rw [psL_app, psL_app]
  have : (S ++ C).head? = S.head? := by cases S with | nil => exact absurd rfl hS | cons a S => rfl
  rw [this]; omega
/-- What a turn changes. -/
theorem psL_turn (A S C : List (Nat → Int)) (hS : S ≠ []) : psL (A ++ (S.reverse ++ C)) = psL (A ++ (S ++ C)) - (brO A.getLast? S.head? + brO S.getLast? C.head? - (brO A.getLast? S.getLast? + brO S.head? C.head?)) := by
  rw [psL_mid A S C hS, psL_mid A S.reverse C (by simpa using hS), psL_rev, List.head?_reverse, List.getLast?_reverse]
  omega
theorem smT_cons (x : Int) (l : List Int) : ∀ n, smT (x :: l) (n + 1) = x + smT l n
  | 0 => by simp [smT]
  | n + 1 => by
    have ih := smT_cons x l n
    rw [smT, ih, smT]
    simp; omega
theorem allJ_psL : ∀ L : List (Nat → Int), allJ L = psL L
  | [] => rfl
  | [a] => rfl
  | a :: b :: L => by
    have ih := allJ_psL (b :: L)
    rw [psL_cons, ← ih]
    unfold allJ
    have e1 : (a :: b :: L).length - 1 = L.length + 1 := by simp
    have e2 : (b :: L).length - 1 = L.length := by simp
    rw [e1, e2]
    have e3 : jl (a :: b :: L) (L.length + 1) = jumpF a b :: jl (b :: L) L.length := by
      unfold jl
      rw [List.range_succ_eq_map, List.map_cons, List.map_map]
      congr 1
    rw [e3, smT_cons]; rfl
/-- The jump between two places, none where one is none. -/
def btw (L : List (Nat → Int)) (i k : Int) : Int := if i < 0 ∨ (L.length : Int) ≤ k then 0 else jumpF (pg L i.toNat) (pg L k.toNat)
def gainL (L : List (Nat → Int)) (i k : Nat) : Int := btw L ((i : Int) - 1) i + btw L k ((k : Int) + 1) - (btw L ((i : Int) - 1) k + btw L i ((k : Int) + 1))
theorem brO_btw {L : List (Nat → Int)} {i k : Int} (hi : i < L.length) (hk : 0 ≤ k) : brO (if i < 0 then none else L[i.toNat]?) L[k.toNat]? = btw L i k := by
  unfold btw
  by_cases h1 : i < 0
  · rw [if_pos h1, if_pos (.inl h1)]; rfl
  · rw [if_neg h1, List.getElem?_eq_getElem (by omega)]
    by_cases h2 : (L.length : Int) ≤ k
    · rw [if_pos (.inr h2), List.getElem?_eq_none (by omega)]; rfl
    · rw [if_neg (by omega), List.getElem?_eq_getElem (by omega), pg_at (show i.toNat < L.length by omega), pg_at (show k.toNat < L.length by omega)]; rfl
theorem take_last {L : List (Nat → Int)} {i : Nat} (hi : i ≤ L.length) : (L.take i).getLast? = if (i : Int) - 1 < 0 then none else L[((i : Int) - 1).toNat]? := by
  cases i with
  | zero => rfl
  | succ i =>
    rw [if_neg (by omega), List.take_succ_eq_append_getElem (by omega), List.getLast?_concat, show ((i + 1 : Nat) : Int) - 1 = (i : Int) by omega, Int.toNat_natCast, List.getElem?_eq_getElem (by omega)]
theorem allJ_turn {L : List (Nat → Int)} {i k : Nat} (hik : i ≤ k) (hk : k < L.length) : allJ (turnL L i k) = allJ L - gainL L i k := by
  have hS : (L.drop i).take (k + 1 - i) ≠ [] := by
    intro e
    have := congrArg List.length e
    simp at this; omega
  have e : L = L.take i ++ ((L.drop i).take (k + 1 - i) ++ L.drop (k + 1)) := by
    have : L.drop (k + 1) = (L.drop i).drop (k + 1 - i) := by rw [List.drop_drop]; congr 1; omega
    rw [this, List.take_append_drop, List.take_append_drop]
  have h1 := psL_turn (L.take i) ((L.drop i).take (k + 1 - i)) (L.drop (k + 1)) hS
  rw [← e] at h1
  rw [allJ_psL, allJ_psL]
  have h2 : turnL L i k = L.take i ++ (((L.drop i).take (k + 1 - i)).reverse ++ L.drop (k + 1)) := rfl
  rw [h2, h1]
  have a1 := take_last (L := L) (i := i) (by omega)
  have a2 : ((L.drop i).take (k + 1 - i)).head? = L[((i : Nat) : Int).toNat]? := by
    rw [Int.toNat_natCast, List.head?_take, if_neg (by omega), List.head?_drop]
  have a3 : ((L.drop i).take (k + 1 - i)).getLast? = if ((k : Nat) : Int) < 0 then none else L[((k : Nat) : Int).toNat]? := by
    rw [if_neg (by omega), Int.toNat_natCast, List.getLast?_take, if_neg (by omega), List.getElem?_drop, show i + (k + 1 - i - 1) = k by omega, List.getElem?_eq_getElem hk]
    rfl
  have a4 : (L.drop (k + 1)).head? = L[((k : Int) + 1).toNat]? := by rw [List.head?_drop]; congr 1
  have b1 := brO_btw (L := L) (i := (i : Int) - 1) (k := (i : Int)) (by omega) (by omega)
  have b2 := brO_btw (L := L) (i := (k : Int)) (k := (k : Int) + 1) (by omega) (by omega)
  have b3 := brO_btw (L := L) (i := (i : Int) - 1) (k := (k : Int)) (by omega) (by omega)
  have b4 := brO_btw (L := L) (i := (i : Int)) (k := (k : Int) + 1) (by omega) (by omega)
  rw [a1, a2, a3, a4]
  unfold gainL
  rw [if_neg (show ¬ ((k : Int) < 0) by omega)] at b2 ⊢
  rw [if_neg (show ¬ ((i : Int) < 0) by omega)] at b4
  rw [b1, b2, b3, b4]
/-- The search of a turn: who turns, and how much is won. -/
def stpG (L : List (Nat → Int)) (s : (Nat × Nat) × Int) (i k : Nat) : (Nat × Nat) × Int := if s.2 < gainL L i k then ((i, k), gainL L i k) else s
def selR (L : List (Nat → Int)) (s : (Nat × Nat) × Int) (i : Nat) : Nat → (Nat × Nat) × Int
  | 0 => s
  | c + 1 => stpG L (selR L s i c) i (i + c)
def selA (L : List (Nat → Int)) : Nat → (Nat × Nat) × Int
  | 0 => ((0, 0), 0)
  | i + 1 => selR L (selA L i) i (L.length - i)
theorem gain_same (L : List (Nat → Int)) (i : Nat) : gainL L i i = 0 := by unfold gainL; omega
def okSel (L : List (Nat → Int)) (s : (Nat × Nat) × Int) : Prop := 0 ≤ s.2 ∧ (0 < s.2 → s.1.1 ≤ s.1.2 ∧ s.1.2 < L.length ∧ s.2 = gainL L s.1.1 s.1.2)
theorem selR_ok {L : List (Nat → Int)} {s : (Nat × Nat) × Int} (h : okSel L s) (i : Nat) : ∀ c, i + c ≤ L.length → okSel L (selR L s i c)
  | 0, _ => h
  | c + 1, hc => by
    have ih := selR_ok h i c (by omega)
    unfold selR stpG
    split
    · rename_i hlt
      have := ih.1
      exact ⟨by show 0 ≤ gainL L i (i + c); omega, fun _ => ⟨by show i ≤ i + c; omega, by show i + c < L.length; omega, rfl⟩⟩
    · exact ih
theorem selA_ok {L : List (Nat → Int)} : ∀ i, i ≤ L.length → okSel L (selA L i)
  | 0, _ => ⟨Int.le_refl _, fun h => absurd h (Int.lt_irrefl _)⟩
  | i + 1, hi => selR_ok (selA_ok i (by omega)) i _ (by omega)
theorem btw_range (L : List (Nat → Int)) (i k : Int) : 0 ≤ btw L i k ∧ btw L i k ≤ 144 := by
  unfold btw
  split
  · omega
  · exact jumpF_le _ _
theorem gain_range (L : List (Nat → Int)) (i k : Nat) : -288 ≤ gainL L i k ∧ gainL L i k ≤ 288 := by
  have a := btw_range L ((i : Int) - 1) i
  have b := btw_range L k ((k : Int) + 1)
  have c := btw_range L ((i : Int) - 1) k
  have d := btw_range L i ((k : Int) + 1)
  unfold gainL; omega
/-- The same, on the order. -/
def selO (l : List (Nat → Int)) (o : List Int) : (Nat × Nat) × Int := selA (inO l o) o.length
def nextO (l : List (Nat → Int)) (o : List Int) : List Int := turnL o (selO l o).1.1 (selO l o).1.2
theorem inO_turn (l : List (Nat → Int)) (o : List Int) (i k : Nat) : inO l (turnL o i k) = turnL (inO l o) i k := by
  unfold inO; rw [turnL_map]
theorem selO_ok (l : List (Nat → Int)) (o : List Int) : okSel (inO l o) (selO l o) := by
  unfold selO
  exact selA_ok _ (by rw [inO_len]; exact Nat.le_refl _)
theorem next_less {l : List (Nat → Int)} {o : List Int} (h : (selO l o).2 ≠ 0) : allJ (inO l (nextO l o)) = allJ (inO l o) - (selO l o).2 ∧ 0 < (selO l o).2 := by
  have hk := selO_ok l o
  have h0 : 0 < (selO l o).2 := by have := hk.1; omega
  obtain ⟨h1, h2, h3⟩ := hk.2 h0
  refine ⟨?_, h0⟩
  unfold nextO
  rw [inO_turn, allJ_turn h1 h2, ← h3]
def locN (l : List (Nat → Int)) : Nat → List Int → List Int
  | 0, o => o
  | n + 1, o => if (selO l o).2 = 0 then o else locN l n (nextO l o)
theorem locN_more {l : List (Nat → Int)} : ∀ (n m : Nat) (o : List Int), (allJ (inO l o)).toNat ≤ n → (allJ (inO l o)).toNat ≤ m → locN l n o = locN l m o
  | 0, m, o, h1, _ => by
    have h0 := (allJ_range (inO l o)).1
    cases m with
    | zero => rfl
    | succ m =>
      unfold locN
      by_cases e : (selO l o).2 = 0
      · rw [if_pos e]
      · have h2 := next_less e
        have h3 := (allJ_range (inO l (nextO l o))).1
        omega
  | n + 1, 0, o, _, h2 => by
    have h0 := (allJ_range (inO l o)).1
    unfold locN
    by_cases e : (selO l o).2 = 0
    · rw [if_pos e]
    · have h2 := next_less e
      have h3 := (allJ_range (inO l (nextO l o))).1
      omega
  | n + 1, m + 1, o, h1, h2 => by
    unfold locN
    by_cases e : (selO l o).2 = 0
    · rw [if_pos e, if_pos e]
    · have h4 := next_less e
      have h3 := (allJ_range (inO l (nextO l o))).1
      rw [if_neg e, if_neg e]
      exact locN_more n m _ (by omega) (by omega)
/-- Where the turns end. -/
def locO (l : List (Nat → Int)) (o : List Int) : List Int := locN l (allJ (inO l o)).toNat o
theorem locO_end {l : List (Nat → Int)} {o : List Int} (h : (selO l o).2 = 0) : locO l o = o := by
  unfold locO
  cases (allJ (inO l o)).toNat with
  | zero => rfl
  | succ n => unfold locN; rw [if_pos h]
theorem locO_next {l : List (Nat → Int)} {o : List Int} (h : (selO l o).2 ≠ 0) : locO l o = locO l (nextO l o) := by
  have h2 := next_less h
  have h3 := (allJ_range (inO l (nextO l o))).1
  unfold locO
  obtain ⟨n, hn⟩ : ∃ n, (allJ (inO l o)).toNat = n + 1 := ⟨(allJ (inO l o)).toNat - 1, by omega⟩
  rw [hn]
  conv => lhs; unfold locN
  rw [if_neg h]
  exact locN_more _ _ _ (by omega) (by omega)
end Go.Proofs.Ytjkkallcgplgmaa

