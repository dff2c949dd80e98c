/- Contracts of functions of the translated program, by the walk. -/
import Derived.Test.YtaekjojblkhfdaaGreatDoorBo4
import Derived.Test.YtaekjojblkhfdaaGreatDoorPl0
import Derived.Test.YtaekjojblkhfdaaGreatDoorLD
set_option linter.unusedVariables false
set_option linter.unusedSimpArgs false
set_option maxRecDepth 8000
set_option maxHeartbeats 16000000
namespace Go.Proofs.YtaekjojblkhfdaaGreatDoor
open Go Go.Sx
def boB (first : Int) : List Int := if 0 ≤ first then [first] else []
def boS (l : List (Nat → Int)) (first : Int) : SS := srch l l.length (l.length - (boB first).length) (boB first) 0 none
def boC (l : List (Nat → Int)) (first : Int) : Int := if okB l = true then (if -1 ≤ first ∧ first ≤ (l.length : Int) - 1 then (if (8 : Int) < l.length then 3 else if l.length = 0 then 6 else 0) else 2) else 1
theorem boC_ok {l : List (Nat → Int)} {first : Int} (h : boC l first = 0) : okB l = true ∧ -1 ≤ first ∧ first ≤ (l.length : Int) - 1 ∧ l.length ≤ 8 ∧ 1 ≤ l.length := by
  unfold boC at h
  split at h
  · split at h
    · split at h
      · cases h
      · split at h
        · cases h
        · rename_i a b c d; exact ⟨a, b.1, b.2, by omega, by omega⟩
    · cases h
  · cases h
theorem boB_len (first : Int) : (boB first).length ≤ 1 := by unfold boB; split <;> simp
theorem boS_some {l : List (Nat → Int)} {first : Int} (h : boC l first = 0) : boS l first ≠ none := by
  have := boC_ok h
  have hb := boB_len first
  exact srch_some this.2.2.2.1 _ _ _ _ (by omega) (by omega) (by omega)
theorem boI {l : List (Nat → Int)} {first : Int} (h : boC l first = 0) : okI l (boB first) := fun k hk => by
  have := boC_ok h
  unfold boB at hk
  split at hk
  · simp only [List.mem_singleton] at hk; omega
  · cases hk
theorem specBestOrder_err {H : List Blk} {v : V} {l : List (Nat → Int)} {p : Int} (h : Rd H v (rowL .u16 12) l) (hl : l.length ≤ 1000000) (hc : boC l p ≠ 0) :
    Cal Tryz.prog 12 [v, .v (.int .i64 p)] H fun u H' => u = .t [.s H.length 0 0 (.u 0), .v (.int .i64 0), .v (.int .i64 (boC l p))] ∧ H' = H ++ [⟨[], 2, .own 1⟩] := by
  have hsol := h.solid
  have hL := h.lenV (P := Tryz.prog) slTy25
  unfold boC at hc ⊢
  by_cases h1 : okB l = true
  · rw [if_pos h1] at hc ⊢
    by_cases h2 : -1 ≤ p ∧ p ≤ (l.length : Int) - 1
    · have e2 : (-1 ≤ p) = True := eq_true h2.1
      have e3 : (p ≤ (l.length : Int) - 1) = True := eq_true h2.2
      rw [if_pos h2] at hc ⊢
      by_cases h3 : (8 : Int) < l.length
      · rw [if_pos h3]
        refine cal_fn 47 mixed Tryz.func12 Tryz.ntmps12 Tryz.results12 rfl rfl rfl fun hw cx hx hq => ?_
        repeat (first | (simp only [go_sem, Int.reduceLT, Int.reduceLE, Int.reduceEq, Int.reduceToNat, hsol, hL, h1, e2, e3, h3, decide_true, Bool.and_self]) | ((with_reducible refine And.intro ?_ ?_); omega) | ((with_reducible refine isSK ?_); first | refine call_ret (l02Ok h (by omega)) ?_ ?_ | refine call_ret (l00In) ?_ ?_) )
        refine ret_at hq _ (.inl rfl) (by simp) ?_
        simp [go_sem]
      · rw [if_neg h3] at hc ⊢
        have e4 : ((8 : Int) < l.length) = False := eq_false h3
        by_cases h5 : l.length = 0
        · have e5 : ((l.length : Int) = 0) = True := eq_true (by omega)
          rw [if_pos h5]
          refine cal_fn 47 mixed Tryz.func12 Tryz.ntmps12 Tryz.results12 rfl rfl rfl fun hw cx hx hq => ?_
          repeat (first | (simp only [go_sem, Int.reduceLT, Int.reduceLE, Int.reduceEq, Int.reduceToNat, hsol, hL, h1, e2, e3, e4, e5, decide_true, Bool.and_self]) | ((with_reducible refine And.intro ?_ ?_); omega) | ((with_reducible refine isSK ?_); first | refine call_ret (l02Ok h (by omega)) ?_ ?_ | refine call_ret (l00In) ?_ ?_) )
          refine ret_at hq _ (.inl rfl) (by simp) ?_
          simp [go_sem]
        · rw [if_neg h5] at hc; exact absurd rfl hc
    · rw [if_neg h2]
      have e2 : (decide (-1 ≤ p) && decide (p ≤ (l.length : Int) - 1)) = false := by
        rw [Bool.and_eq_false_iff, decide_eq_false_iff_not, decide_eq_false_iff_not]; omega
      refine cal_fn 47 mixed Tryz.func12 Tryz.ntmps12 Tryz.results12 rfl rfl rfl fun hw cx hx hq => ?_
      repeat (first | (simp only [go_sem, Int.reduceLT, Int.reduceLE, Int.reduceEq, Int.reduceToNat, hsol, hL, h1, e2]) | ((with_reducible refine And.intro ?_ ?_); omega) | ((with_reducible refine isSK ?_); first | refine call_ret (l02Ok h (by omega)) ?_ ?_ | refine call_ret (l00In) ?_ ?_) )
      refine ret_at hq _ (.inl rfl) (by simp) ?_
      simp [go_sem]
  · have e1 : okB l = false := by simpa using h1
    rw [if_neg h1]
    refine cal_fn 47 mixed Tryz.func12 Tryz.ntmps12 Tryz.results12 rfl rfl rfl fun hw cx hx hq => ?_
    repeat (first | (simp only [go_sem, Int.reduceLT, Int.reduceLE, Int.reduceEq, Int.reduceToNat, hsol, hL, e1]) | ((with_reducible refine isSK ?_); refine call_ret (l02Ok h (by omega)) ?_ ?_ ) )
    refine ret_at hq _ (.inl rfl) (by simp) ?_
    simp [go_sem]
theorem implBestOrder_err {H : List Blk} {v : V} {l : List (Nat → Int)} {p : Int} (h : Rd H v (rowL .u16 12) l) (hl : l.length ≤ 1000000) (hc : boC l p ≠ 0) :
    Cal Tryz.prog 11 [v, .v (.int .i64 p)] H fun u H' => u = .t [.v (.slice none 0 0), .v (.int .i64 0), .v (.int .i64 (boC l p))] ∧ H' = H := by
  have hsol := h.solid
  have hL := h.lenV (P := Tryz.prog) slTy25
  unfold boC at hc ⊢
  by_cases h1 : okB l = true
  · rw [if_pos h1] at hc ⊢
    by_cases h2 : -1 ≤ p ∧ p ≤ (l.length : Int) - 1
    · rw [if_pos h2] at hc ⊢
      have hpp : (p = -1 ∧ (p = -1) = True) ∨ ((p = -1) = False ∧ (decide (0 ≤ p) && decide (p ≤ (l.length : Int) - 1)) = true) := by
        by_cases e : p = -1
        · exact .inl ⟨e, eq_true e⟩
        · exact .inr ⟨eq_false e, by simp; omega⟩
      by_cases h3 : (8 : Int) < l.length
      · rw [if_pos h3]
        rcases hpp with ⟨rfl, -⟩ | ⟨c1, c2⟩
        · refine cal_fn 49 mixed Tryz.func11 Tryz.ntmps11 Tryz.results11 rfl rfl rfl fun hw cx hx hq => ?_
          repeat (first | (simp only [go_sem, Int.reduceLT, Int.reduceLE, Int.reduceEq, Int.reduceToNat, hsol, hL, h1, h3]) | ((with_reducible refine isSK ?_); refine call_ret (validBook h (by omega)) ?_ ?_ ) )
          refine ret_same hq _ (.inl rfl) ?_
          simp [go_sem]
        · refine cal_fn 49 mixed Tryz.func11 Tryz.ntmps11 Tryz.results11 rfl rfl rfl fun hw cx hx hq => ?_
          repeat (first | (simp only [go_sem, Int.reduceLT, Int.reduceLE, Int.reduceEq, Int.reduceToNat, hsol, hL, h1, h3, c1, c2]) | ((with_reducible refine isSK ?_); first | refine call_ret (validBook h (by omega)) ?_ ?_ | refine call_ret (isPage h (by omega)) ?_ ?_) )
          refine ret_same hq _ (.inl rfl) ?_
          simp [go_sem]
      · rw [if_neg h3] at hc ⊢
        have e4 : ((8 : Int) < l.length) = False := eq_false h3
        by_cases h5 : l.length = 0
        · have e5 : ((l.length : Int) = 0) = True := eq_true (by omega)
          rw [if_pos h5]
          rcases hpp with ⟨rfl, -⟩ | ⟨c1, c2⟩
          · refine cal_fn 49 mixed Tryz.func11 Tryz.ntmps11 Tryz.results11 rfl rfl rfl fun hw cx hx hq => ?_
            repeat (first | (simp only [go_sem, Int.reduceLT, Int.reduceLE, Int.reduceEq, Int.reduceToNat, hsol, hL, h1, e4, e5]) | ((with_reducible refine isSK ?_); refine call_ret (validBook h (by omega)) ?_ ?_ ) )
            refine ret_same hq _ (.inl rfl) ?_
            simp [go_sem]
          · refine cal_fn 49 mixed Tryz.func11 Tryz.ntmps11 Tryz.results11 rfl rfl rfl fun hw cx hx hq => ?_
            repeat (first | (simp only [go_sem, Int.reduceLT, Int.reduceLE, Int.reduceEq, Int.reduceToNat, hsol, hL, h1, c1, c2, e4, e5]) | ((with_reducible refine isSK ?_); first | refine call_ret (validBook h (by omega)) ?_ ?_ | refine call_ret (isPage h (by omega)) ?_ ?_) )
            refine ret_same hq _ (.inl rfl) ?_
            simp [go_sem]
        · rw [if_neg h5] at hc; exact absurd rfl hc
    · rw [if_neg h2]
      have c1 : (p = -1) = False := eq_false (by omega)
      have c2 : (decide (0 ≤ p) && decide (p ≤ (l.length : Int) - 1)) = false := by
        rw [Bool.and_eq_false_iff, decide_eq_false_iff_not, decide_eq_false_iff_not]; omega
      refine cal_fn 49 mixed Tryz.func11 Tryz.ntmps11 Tryz.results11 rfl rfl rfl fun hw cx hx hq => ?_
      repeat (first | (simp only [go_sem, Int.reduceLT, Int.reduceLE, Int.reduceEq, Int.reduceToNat, hsol, hL, h1, c1, c2]) | ((with_reducible refine isSK ?_); first | refine call_ret (validBook h (by omega)) ?_ ?_ | refine call_ret (isPage h (by omega)) ?_ ?_) )
      refine ret_same hq _ (.inl rfl) ?_
      simp [go_sem]
  · have e1 : okB l = false := by simpa using h1
    rw [if_neg h1]
    refine cal_fn 49 mixed Tryz.func11 Tryz.ntmps11 Tryz.results11 rfl rfl rfl fun hw cx hx hq => ?_
    repeat (first | (simp only [go_sem, Int.reduceLT, Int.reduceLE, Int.reduceEq, Int.reduceToNat, hsol, hL, e1]) | ((with_reducible refine isSK ?_); refine call_ret (validBook h (by omega)) ?_ ?_ ) )
    refine ret_same hq _ (.inl rfl) ?_
    simp [go_sem]
theorem specBestOrder_ok {H : List Blk} {v : V} {l : List (Nat → Int)} {p : Int} (h : Rd H v (rowL .u16 12) l) (hR : ∀ f ∈ l, R16 f) (hc : boC l p = 0) :
    Cal Tryz.prog 12 [v, .v (.int .i64 p)] H fun u H' => u = .t [.s H.length 0 l.length (.u 0), .v (.int .i64 (leI (boS l p))), .v (.int .i64 0)] ∧ H' = H ++ [⟨(beL (boS l p)).flatMap i64C, 2, .own 1⟩] := by
  have hsol := h.solid
  have hL := h.lenV (P := Tryz.prog) slTy25
  obtain ⟨h1, h2, h3, h4, h5⟩ := boC_ok hc
  have h12 := okB_12 h1 hR
  have e2 : (-1 ≤ p) = True := eq_true h2
  have e3 : (p ≤ (l.length : Int) - 1) = True := eq_true h3
  have e4 : ((8 : Int) < l.length) = False := eq_false (by omega)
  have e5 : ((l.length : Int) = 0) = False := eq_false (by omega)
  have hbl := boB_len p
  have hI := boI hc
  have hsn := boS_some hc
  have hse : ∀ {H : List Blk} {v w : V} {bt : Nat} (_ : Rd H v i64C (boB p)) (_ : ∀ a b, v ≠ .v (.slice none a b)) (_ : Rd H w i64C []) (_ : H[bt]? = some ⟨rowL .i64 64 (tabL l), 74, .fix⟩), Cal Tryz.prog 48 [.p bt 0, .v (.int .i64 l.length), v, .v (.int .i64 0), w, .v (.int .i64 (-1))] H fun u H' => u = .t [.s H.length 0 l.length (.u 0), .v (.int .i64 (leI (boS l p)))] ∧ H' = H ++ [⟨(beL (boS l p)).flatMap i64C, 2, .own 1⟩] := fun a1 a2 a3 a4 => by
    have := l04Search_ok (l := l) rfl h4 (l.length - (boB p).length) (o := boB p) (s := 0) (st := none) a1 a2 hI (by omega) (by omega) (by omega) (fun b x e => by cases e) a3 a4 rfl
    have e : srch l l.length (l.length - (boB p).length) (boB p) 0 none = boS l p := rfl
    rw [e, wV_new hsn, wB_new hsn] at this
    exact this
  by_cases hp : 0 ≤ p
  · have ep : (0 ≤ p) = True := eq_true hp
    have hB : boB p = [p] := if_pos hp
    refine cal_fn 47 mixed Tryz.func12 Tryz.ntmps12 Tryz.results12 rfl rfl rfl fun hw cx hx hq => ?_
    have hn1 : norefH (H.length + 1) H := norefH_wf hw (by omega)
    have hd1 : (H.length + 1 = H.length) = False := eq_false (by omega)
    have hd2 : (H.length = H.length + 1) = False := eq_false (by omega)
    have hfg := h.forget (n := H.length + 1) (by omega)
    repeat (first | (simp only [go_sem, Int.reduceLT, Int.reduceLE, Int.reduceEq, Int.reduceToNat, hsol, hL, h1, e2, e3, e4, e5, ep, decide_true, Bool.and_self, hn1, hx, rowL_rep, wr_row, hd1, hd2, hfg, List.length_singleton]) | ((with_reducible refine And.intro ?_ ?_); omega) | ((with_reducible refine isSK ?_); first | refine call_ret (l02Ok h (by omega)) ?_ ?_ | refine call_ret (l00In) ?_ ?_ | refine call_ret (l04Table h h12 h4) ?_ ?_ | refine call_ret (hse (by rw [hB]; exact Rd.own 1 rfl (by rfl) (by rfl ) ) (fun a b e => by cases e) (by exact Rd.own 3 rfl (by rfl) (by rfl )) (by exact (Go.Sx.get_at0 _ _).trans rfl )) ?_ ?_) )
    refine ret_one hq hw _ (.inl rfl) 4 rfl (by rw [flat_i64.lts]; trivial) (.t [.s H.length 0 l.length (.u 0), .v (.int .i64 (leI (boS l p))), .v (.int .i64 0)]) (by simp [go_sem] <;> rfl) ?_
    simp [go_sem, conc, concs, upσ, Cap.val]
  · have ep : (0 ≤ p) = False := eq_false hp
    have hB : boB p = [] := if_neg hp
    refine cal_fn 47 mixed Tryz.func12 Tryz.ntmps12 Tryz.results12 rfl rfl rfl fun hw cx hx hq => ?_
    have hn1 : norefH (H.length + 1) H := norefH_wf hw (by omega)
    have hd1 : (H.length + 1 = H.length) = False := eq_false (by omega)
    have hd2 : (H.length = H.length + 1) = False := eq_false (by omega)
    have hfg := h.forget (n := H.length + 1) (by omega)
    repeat (first | (simp only [go_sem, Int.reduceLT, Int.reduceLE, Int.reduceEq, Int.reduceToNat, hsol, hL, h1, e2, e3, e4, e5, ep, decide_true, Bool.and_self, hn1, hx, rowL_rep, wr_row, hd1, hd2, hfg, List.length_singleton]) | ((with_reducible refine And.intro ?_ ?_); omega) | ((with_reducible refine isSK ?_); first | refine call_ret (l02Ok h (by omega)) ?_ ?_ | refine call_ret (l00In) ?_ ?_ | refine call_ret (l04Table h h12 h4) ?_ ?_ | refine call_ret (hse (by rw [hB]; exact Rd.own 1 rfl (by rfl) (by rfl ) ) (fun a b e => by cases e) (by exact Rd.own 2 rfl (by rfl) (by rfl ) ) (by exact (Go.Sx.get_at0 _ _).trans rfl )) ?_ ?_) )
    refine ret_one hq hw _ (.inl rfl) 3 rfl (by rw [flat_i64.lts]; trivial) (.t [.s H.length 0 l.length (.u 0), .v (.int .i64 (leI (boS l p))), .v (.int .i64 0)]) (by simp [go_sem] <;> rfl) ?_
    simp [go_sem, conc, concs, upσ, Cap.val]
end Go.Proofs.YtaekjojblkhfdaaGreatDoor
namespace Go.Proofs.YtaekjojblkhfdaaGreatDoor
open Go Go.Sx
open Go.RowKit
def nxB (l : List Int) (a : Nat) : Int := if a < l.length then l[a]?.getD 0 else 0
def nxS (l : List Int) (a : Nat) (sd : Int) : Int := IntKind.u64.wrap (IntKind.u64.wrap (IntKind.u64.wrap (sd * 6364136223846793005) + IntKind.u64.wrap (nxB l a)) + 1442695040888963407)
def nxV (l : List Int) (a : Nat) (sd : Int) : Int := if a < l.length then nxB l a else bits .and .u64 ((nxS l a sd).fdiv (2 ^ min 40 64)) 255
theorem u64_range (x : Int) : 0 ≤ IntKind.u64.wrap x ∧ IntKind.u64.wrap x ≤ 18446744073709551615 := by
  unfold IntKind.wrap
  simp only [IntKind.bits, IntKind.signed, Bool.false_and]
  simp
  omega
theorem nxS_range (l : List Int) (a : Nat) (sd : Int) : 0 ≤ nxS l a sd ∧ nxS l a sd ≤ 18446744073709551615 := u64_range _
theorem and255 (x : Int) : 0 ≤ bits .and .u64 x 255 ∧ bits .and .u64 x 255 ≤ 255 := by
  have e : bits .and .u64 x 255 = IntKind.u64.wrap ((BitVec.ofInt 64 x &&& BitVec.ofInt 64 255).toNat : Int) := rfl
  have h : (BitVec.ofInt 64 x &&& BitVec.ofInt 64 255).toNat ≤ 255 := by
    rw [BitVec.toNat_and]
    have : (BitVec.ofInt 64 (255 : Int)).toNat = 255 := by decide
    rw [this]; exact Nat.and_le_right
  rw [e, wrap_u64 (by omega) (by omega)]; omega
theorem nxV_range {l : List Int} (h8 : B8 l) (a : Nat) (sd : Int) : 0 ≤ nxV l a sd ∧ nxV l a sd ≤ 255 := by
  unfold nxV
  split
  · rename_i h
    unfold nxB
    rw [if_pos h, List.getElem?_eq_getElem h]
    exact h8 _ (List.getElem_mem h)
  · exact and255 _
theorem next {H : List Blk} {i a : Nat} {cv : V} {sd : Int} {l : List Int} {k : BK} (h : H[i]? = some ⟨[cv, .v (.int .i64 a), .v (.int .u64 sd)], 103, k⟩) (hk : k.mut = true) (hv : k.live = true) (hr : Rd H cv u8C l) (h8 : B8 l) (hll : l.length ≤ 4096) (ha : a ≤ 1000000) (hs : 0 ≤ sd ∧ sd ≤ 18446744073709551615) :
    Cal Tryz.prog 94 [.p i 0] H fun u H' => u = .v (.int .i64 (nxV l a sd)) ∧ H' = H.set i ⟨[cv, .v (.int .i64 ((a + 1 : Nat) : Int)), .v (.int .u64 (nxS l a sd))], 103, k⟩ := by
  have hsol := hr.solid
  have hL := hr.lenV (P := Tryz.prog) slTy22
  have hlt := (List.getElem?_eq_some_iff.1 h).1
  refine cal_fn 61 mixed Tryz.func94 Tryz.ntmps94 Tryz.results94 rfl rfl rfl fun hw cx hx hq => ?_
  have hget : ∀ b : Blk, (H.set i b)[i]? = some b := fun b => by rw [List.getElem?_set_self hlt]
  by_cases hc : a < l.length
  · obtain ⟨j, off, c, b, rfl, hat, hf⟩ := hr.full (by omega)
    have hfl : (l.flatMap u8C).length = l.length := by rw [flat_u8.flen, Nat.mul_one]
    rw [hfl] at hf
    have an := hat.u8 hc
    have hb8 := h8 _ (List.getElem_mem hc)
    have hnb : nxB l a = l[a] := by unfold nxB; rw [if_pos hc, List.getElem?_eq_getElem hc]; rfl
    have hc1 : ((a : Int) < (l.length : Int)) = True := eq_true (by omega)
    have hc2 : ((a : Int) + 1 ≤ (l.length : Int)) = True := eq_true (by omega)
    repeat (first | (simp only [go_sem, Int.reduceLT, Int.reduceLE, Int.reduceEq, Int.reduceToNat, h, hk, hv, hsol, hL, hlt, hget, List.set_set, hc1, hc2, hat.get, hat.live, an]) | ((with_reducible refine And.intro ?_ ?_); omega) | ((with_reducible refine isWKr (id := 2) ?_); refine WK_drawAt 2 [[],[0],[0,1],[0,1,2],[],[4],[4,5],[4,5,6],[4,5,6,7],[0,1,2,3,4,5,6,7,8]] (by kernel_rfl) ?_) | ((with_reducible refine isWKr (id := 3) ?_); refine WK_drawAt 3 [[],[0],[0,1],[0,1,2],[],[4],[4,5],[4,5,6],[0,1,2,3,4,5,6,7],[0,1,2,3,4,5,6,7,8],[0,1,2,3,4,5,6,7,8,9],[0,1,2,3,4,5,6,7,8,9,10]] (by kernel_rfl) ?_) | ((with_reducible refine isWKr (id := 6) ?_); refine WK_drawAt 6 [[],[0],[0,1],[0,1,2],[],[4],[4,5],[4,5,6],[4,5,6,7],[0,1,2,3,4,5,6,7,8]] (by kernel_rfl) ?_) )
    refine ret_at hq _ (.inl rfl) (by simp) ?_
    simp [go_sem, nxV, nxS, hnb, hc]
  · have hnb : nxB l a = 0 := by unfold nxB; rw [if_neg hc]
    have hc1 : ((a : Int) < (l.length : Int)) = False := eq_false (by omega)
    have hc2 : ((a : Int) + 1 ≤ (l.length : Int)) = False := eq_false (by omega)
    repeat (first | (simp only [go_sem, Int.reduceLT, Int.reduceLE, Int.reduceEq, Int.reduceToNat, h, hk, hv, hsol, hL, hlt, hget, List.set_set, hc1, hc2]) | ((with_reducible refine And.intro ?_ ?_); omega) | ((with_reducible refine isWKr (id := 2) ?_); refine WK_drawAt 2 [[],[0],[0,1],[0,1,2],[],[4],[4,5],[4,5,6],[4,5,6,7],[0,1,2,3,4,5,6,7,8]] (by kernel_rfl) ?_) | ((with_reducible refine isWKr (id := 6) ?_); refine WK_drawAt 6 [[],[0],[0,1],[0,1,2],[],[4],[4,5],[4,5,6],[4,5,6,7],[0,1,2,3,4,5,6,7,8]] (by kernel_rfl) ?_) )
    have h255 := and255 ((IntKind.u64.wrap (IntKind.u64.wrap (IntKind.u64.wrap (sd * 6364136223846793005) + IntKind.u64.wrap 0) + 1442695040888963407)).fdiv (2 ^ min 40 64))
    refine ⟨by omega, ?_⟩
    refine ret_at hq _ (.inl rfl) (by simp) ?_
    simp [go_sem, nxV, nxS, hnb, hc]
def pkV (l : List Int) (a : Nat) (sd n : Int) : Int := (nxV l a sd).tmod n
theorem pkV_range {l : List Int} (h8 : B8 l) (a : Nat) (sd : Int) {n : Int} (hn : 1 ≤ n) : 0 ≤ pkV l a sd n ∧ pkV l a sd n < n := by
  have := nxV_range h8 a sd
  unfold pkV
  exact ⟨Int.tmod_nonneg _ this.1, Int.tmod_lt_of_pos _ (by omega)⟩
theorem pick {H : List Blk} {i a : Nat} {cv : V} {sd n : Int} {l : List Int} {k : BK} (h : H[i]? = some ⟨[cv, .v (.int .i64 a), .v (.int .u64 sd)], 103, k⟩) (hk : k.mut = true) (hv : k.live = true) (hr : Rd H cv u8C l) (h8 : B8 l) (hll : l.length ≤ 4096) (ha : a ≤ 1000000) (hs : 0 ≤ sd ∧ sd ≤ 18446744073709551615) (hn : 2 ≤ n ∧ n ≤ 200) :
    Cal Tryz.prog 67 [.p i 0, .v (.int .i64 n)] H fun u H' => u = .v (.int .i64 (pkV l a sd n)) ∧ H' = H.set i ⟨[cv, .v (.int .i64 ((a + 1 : Nat) : Int)), .v (.int .u64 (nxS l a sd))], 103, k⟩ := by
  have hsol := hr.solid
  have hlt := (List.getElem?_eq_some_iff.1 h).1
  have hr1 := nxV_range h8 a sd
  have c1 : (n ≤ 1) = False := eq_false (by omega)
  have c2 : ((200 : Int) < n) = False := eq_false (by omega)
  have c3 : (n = 0) = False := eq_false (by omega)
  refine cal_fn 18 mixed Tryz.func67 Tryz.ntmps67 Tryz.results67 rfl rfl rfl fun hw cx hx hq => ?_
  repeat (first | (simp only [go_sem, Int.reduceLT, Int.reduceLE, Int.reduceEq, Int.reduceToNat, hsol, hlt, c1, c2, c3]) | ((with_reducible refine isSK ?_); refine call_ret (next h hk hv hr h8 hll ha hs) ?_ ?_) )
  refine ret_at hq _ (.inl rfl) (by simp) ?_
  simp [go_sem, pkV]
theorem pick1 {H : List Blk} {i : Nat} {n x : Int} (hi : i < H.length) (hn : n ≤ 1) (h0 : x = 0) : Cal Tryz.prog 67 [.p i 0, .v (.int .i64 n)] H fun u H' => u = .v (.int .i64 x) ∧ H' = H := by
  subst h0
  have c1 : (n ≤ 1) = True := eq_true hn
  refine cal_fn 18 mixed Tryz.func67 Tryz.ntmps67 Tryz.results67 rfl rfl rfl fun hw cx hx hq => ?_
  repeat ((simp only [go_sem, Int.reduceLT, Int.reduceLE, Int.reduceEq, Int.reduceToNat, c1]) )
  refine ret_same hq _ (.inl rfl) ?_
  simp [go_sem]
theorem one {H : List Blk} {i a : Nat} {cv : V} {sd n : Int} {l : List Int} {k : BK} (h : H[i]? = some ⟨[cv, .v (.int .i64 a), .v (.int .u64 sd)], 103, k⟩) (hk : k.mut = true) (hv : k.live = true) (hr : Rd H cv u8C l) (h8 : B8 l) (hll : l.length ≤ 4096) (ha : a ≤ 1000000) (hs : 0 ≤ sd ∧ sd ≤ 18446744073709551615) (hn : 2 ≤ n ∧ n ≤ 200) :
    Cal Tryz.prog 76 [.p i 0, .v (.int .i64 n)] H fun u H' => u = .v (.bool (decide (pkV l a sd n = 0))) ∧ H' = H.set i ⟨[cv, .v (.int .i64 ((a + 1 : Nat) : Int)), .v (.int .u64 (nxS l a sd))], 103, k⟩ := by
  have hlt := (List.getElem?_eq_some_iff.1 h).1
  refine cal_fn 7 mixed Tryz.func76 Tryz.ntmps76 Tryz.results76 rfl rfl rfl fun hw cx hx hq => ?_
  repeat (first | (simp only [go_sem, Int.reduceLT, Int.reduceLE, Int.reduceEq, Int.reduceToNat, hlt]) | ((with_reducible refine isSK ?_); refine call_ret (pick h hk hv hr h8 hll ha hs hn) ?_ ?_) )
  refine ret_at hq _ (.inl rfl) (by simp) ?_
  simp [go_sem]
theorem l00From {H : List Blk} {cv : V} {l : List Int} (hr : Rd H cv u8C l) : Cal Tryz.prog 31 [cv] H fun u H' => u = .p H.length 0 ∧ H' = H ++ [⟨[cv, .v (.int .i64 0), .v (.int .u64 0)], 103, .fix⟩] := by
  have hsol := hr.solid
  rcases hr with ⟨rfl, _⟩ | ⟨i, off, c, b, rfl, hat, hf⟩
  · refine cal_fn 5 mixed Tryz.func31 Tryz.ntmps31 Tryz.results31 rfl rfl rfl fun hw cx hx hq => ?_
    repeat ((simp only [go_sem, Int.reduceLT, Int.reduceLE, Int.reduceEq, Int.reduceToNat, hsol]) )
    refine ret_at hq _ (.inl rfl) (by simp) ?_
    simp [go_sem]
  · refine cal_fn 5 mixed Tryz.func31 Tryz.ntmps31 Tryz.results31 rfl rfl rfl fun hw cx hx hq => ?_
    repeat ((simp only [go_sem, Int.reduceLT, Int.reduceLE, Int.reduceEq, Int.reduceToNat, hsol]) )
    refine ret_at hq _ (.inl rfl) (by simp) ?_
    simp [go_sem]
theorem P6Pick {H : List Blk} {cv : V} {l : List Int} {n : Int} (hr : Rd H cv u8C l) (h8 : B8 l) (hll : l.length ≤ 4096) (hn : 2 ≤ n ∧ n ≤ 200) : Cal Tryz.prog 24 [cv, .v (.int .i64 n)] H fun u H' => u = .v (.int .i64 (pkV l 0 0 n)) ∧ H' = H := by
  have hsol := hr.solid
  refine cal_fn 7 mixed Tryz.func24 Tryz.ntmps24 Tryz.results24 rfl rfl rfl fun hw cx hx hq => ?_
  repeat (first | (simp only [go_sem, Int.reduceLT, Int.reduceLE, Int.reduceEq, Int.reduceToNat, hsol]) | ((with_reducible refine isSK ?_); first | refine call_ret (l00From hr) ?_ ?_ | refine call_ret (pick (a := 0) (sd := 0) (l := l) (k := .fix) (by exact (Go.Sx.get_at0 _ _).trans rfl ) rfl rfl hr.app h8 hll (by omega) (by omega) hn) ?_ ?_) )
  refine ret_cut hq hw _ (.inl rfl) ?_
  simp [go_sem]
theorem f6big {H : List Blk} {cv : V} {l : List Int} (hr : Rd H cv u8C l) : Cal Tryz.prog 4 [cv] H fun u H' => u = .v (.bool (decide (4096 < (l.length : Int)))) ∧ H' = H := by
  have hsol := hr.solid
  have hL := hr.lenV (P := Tryz.prog) slTy22
  refine cal_fn 5 mixed Tryz.func4 Tryz.ntmps4 Tryz.results4 rfl rfl rfl fun hw cx hx hq => ?_
  repeat ((simp only [go_sem, Int.reduceLT, Int.reduceLE, Int.reduceEq, Int.reduceToNat, hsol, hL]) )
  refine ret_same hq _ (.inl rfl) ?_
  simp [go_sem]
end Go.Proofs.YtaekjojblkhfdaaGreatDoor
