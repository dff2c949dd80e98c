/- Contracts of functions of the translated program, by the walk. -/
import Derived.Test.YtaekjojblkhfdaaGreatC2
import Derived.Test.YtaekjojblkhfdaaGreatC3
set_option linter.unusedVariables false
set_option linter.unusedSimpArgs false
set_option maxRecDepth 8000
set_option maxHeartbeats 16000000
namespace Go.Proofs.YtaekjojblkhfdaaGreat
open Go Go.Sx
def pg (l : List (Nat → Int)) (i : Nat) : Nat → Int := l[i]?.getD zeroF
theorem pg_at {l : List (Nat → Int)} {i : Nat} (h : i < l.length) : pg l i = l[i] := by unfold pg; rw [List.getElem?_eq_getElem h]; rfl
def jmp (l : List (Nat → Int)) (i k : Nat) : Int := jumpF (pg l i) (pg l k)
theorem jmp_le (l : List (Nat → Int)) (i k : Nat) : 0 ≤ jmp l i k ∧ jmp l i k ≤ 144 := jumpF_le _ _
theorem okB_12 {l : List (Nat → Int)} (h : okB l = true) (hR : ∀ f ∈ l, R16 f) : ∀ f ∈ l, F12 f := fun f hf => okF_f12 (List.all_eq_true.1 (okB_iff.1 h).2 f hf) (hR f hf)
theorem pg_12 {l : List (Nat → Int)} (h : ∀ f ∈ l, F12 f) (i : Nat) : F12 (pg l i) := by
  unfold pg
  cases e : l[i]? with
  | none => intro j _; simp [zeroF]
  | some f => exact h f (List.mem_of_getElem? e)
theorem l04Jump {H : List Blk} {v : V} {l : List (Nat → Int)} {i k : Int} (h : Rd H v (rowL .u16 12) l) (h12 : ∀ f ∈ l, F12 f) (hi : 0 ≤ i ∧ i < l.length) (hk : 0 ≤ k ∧ k < l.length) :
    Cal Tryz.prog 72 [v, .v (.int .i64 i), .v (.int .i64 k)] H fun u H' => u = .v (.int .i64 (jmp l i.toNat k.toNat)) ∧ H' = H := by
  obtain ⟨b0, off, c, b, rfl, hat, hf⟩ := h.full (by omega)
  have ai := hat.el hz12 (show i.toNat < l.length by omega)
  have ak := hat.el hz12 (show k.toNat < l.length by omega)
  rw [← pg_at (show i.toNat < l.length by omega)] at ai
  rw [← pg_at (show k.toNat < l.length by omega)] at ak
  refine cal_fn 11 mixed Tryz.func72 Tryz.ntmps72 Tryz.results72 rfl rfl rfl fun hw cx hx hq => ?_
  repeat (first | (simp only [go_sem, Int.reduceLT, Int.reduceLE, Int.reduceEq, Int.reduceToNat]) | ((with_reducible refine And.intro ?_ ?_); omega) | ((with_reducible refine isSK ?_); first | (refine call_ret (l01Differ ai ak (pg_12 h12 _) (pg_12 h12 _)) (by simp only [go_sem, Int.reduceLT, Int.reduceLE, Int.reduceEq, Int.reduceToNat]) ?_)) | ((with_reducible refine isMC ?_); first | (refine mcall_ret (l01Differ ai ak (pg_12 h12 _) (pg_12 h12 _)) (by simp only [go_sem, Int.reduceLT, Int.reduceLE, Int.reduceEq, Int.reduceToNat]) (by simp only [go_sem, Int.reduceLT, Int.reduceLE, Int.reduceEq, Int.reduceToNat]) ?_)) | ((with_reducible refine isWKr (id := 1) ?_); refine WK_drawUp 1 [[],[],[0,1],[],[],[3,4],[0,1,2,3,4,5],[0,1,2,3,4,5,6]] 6 (by kernel_rfl) ?_; dsimp only [List.take, List.drop]) | ((with_reducible refine And.intro ?_ ?_); first | (with_reducible rfl) | assumption | (simp only [go_sem]; done)))
  refine ret_same hq _ (.inl rfl) ?_
  simp [go_sem, jmp]
/-- How strange a page is. -/
def stg (l : List (Nat → Int)) (i : Nat) : Int := if i = 0 then jmp l 0 1 else if i + 1 = l.length then jmp l (i - 1) i else jmp l (i - 1) i + jmp l i (i + 1) - jmp l (i - 1) (i + 1)
def bS (l : List (Nat → Int)) : Nat → Nat
  | 0 => 0
  | k + 1 => if stg l (bS l k) < stg l (k + 1) then k + 1 else bS l k
theorem bS_le (l : List (Nat → Int)) : ∀ k, bS l k ≤ k
  | 0 => Nat.le_refl _
  | k + 1 => by unfold bS; have := bS_le l k; split <;> omega
theorem l04Strange {H : List Blk} {v : V} {l : List (Nat → Int)} {i : Nat} (h : Rd H v (rowL .u16 12) l) (h12 : ∀ f ∈ l, F12 f) (hi : i < l.length) (h2 : 2 ≤ l.length) (h40 : l.length ≤ 40) :
    Cal Tryz.prog 47 [v, .v (.int .i64 i)] H fun u H' => u = .v (.int .i64 (stg l i)) ∧ H' = H := by
  have hsol := h.solid
  have hL := h.lenV (P := Tryz.prog) slTy25
  refine cal_fn 38 mixed Tryz.func47 Tryz.ntmps47 Tryz.results47 rfl rfl rfl fun hw cx hx hq => ?_
  have j1 := jmp_le l (i - 1) i
  have j2 := jmp_le l i (i + 1)
  have j3 := jmp_le l (i - 1) (i + 1)
  have t0 : Int.toNat ((i : Int) - 1) = i - 1 := by omega
  have t1 : Int.toNat ((i : Int) + 1) = i + 1 := by omega
  have t2 : Int.toNat ((l.length : Int) - 1) = l.length - 1 := by omega
  have t3 : Int.toNat ((l.length : Int) - 1 - 1) = l.length - 1 - 1 := by omega
  by_cases e1 : i = 0
  · have e1' : ((i : Int) = 0) = True := eq_true (by omega)
    repeat (first | (simp only [go_sem, Int.reduceLT, Int.reduceLE, Int.reduceEq, Int.reduceToNat, hsol, hL, e1']) | ((with_reducible refine And.intro ?_ ?_); omega) | ((with_reducible refine isSK ?_); first | (refine call_ret (l04Jump h h12 (by omega) (by omega)) (by simp only [go_sem, Int.reduceLT, Int.reduceLE, Int.reduceEq, Int.reduceToNat, hsol, hL, e1']) ?_)) | ((with_reducible refine And.intro ?_ ?_); first | (with_reducible rfl) | assumption | (simp only [go_sem]; done)))
    refine ret_same hq _ (.inl rfl) ?_
    simp [go_sem, stg, e1]
  have e1' : ((i : Int) = 0) = False := eq_false (by omega)
  by_cases e2 : i + 1 = l.length
  · have e2' : ((i : Int) = (l.length : Int) - 1) = True := eq_true (by omega)
    repeat (first | (simp only [go_sem, Int.reduceLT, Int.reduceLE, Int.reduceEq, Int.reduceToNat, hsol, hL, e1', e2', t2, t3]) | ((with_reducible refine And.intro ?_ ?_); omega) | ((with_reducible refine isSK ?_); first | (refine call_ret (l04Jump h h12 (by omega) (by omega)) (by simp only [go_sem, Int.reduceLT, Int.reduceLE, Int.reduceEq, Int.reduceToNat, hsol, hL, e1', e2', t2, t3]) ?_)) | ((with_reducible refine And.intro ?_ ?_); first | (with_reducible rfl) | assumption | (simp only [go_sem]; done)))
    refine ret_same hq _ (.inl rfl) ?_
    have e4 : l.length - 1 = i := by omega
    simp [go_sem, stg, e1, e2, e4]
  · have e2' : ((i : Int) = (l.length : Int) - 1) = False := eq_false (by omega)
    repeat (first | (simp only [go_sem, Int.reduceLT, Int.reduceLE, Int.reduceEq, Int.reduceToNat, hsol, hL, e1', e2', t0, t1]) | ((with_reducible refine And.intro ?_ ?_); omega) | ((with_reducible refine isSK ?_); first | (refine call_ret (l04Jump h h12 (by omega) (by omega)) (by simp only [go_sem, Int.reduceLT, Int.reduceLE, Int.reduceEq, Int.reduceToNat, hsol, hL, e1', e2', t0, t1]) ?_)) | ((with_reducible refine And.intro ?_ ?_); first | (with_reducible rfl) | assumption | (simp only [go_sem]; done)))
    refine ret_same hq _ (.inl rfl) ?_
    simp [go_sem, stg, e1, e2]
def strC (l : List (Nat → Int)) : Int := if okB l = true then (if l.length < 2 then 6 else 0) else 1
theorem strC_ok {l : List (Nat → Int)} (h : strC l = 0) : okB l = true ∧ 2 ≤ l.length := by
  unfold strC at h
  split at h
  · rename_i e; split at h
    · cases h
    · exact ⟨e, by omega⟩
  · cases h
theorem checkTwo {H : List Blk} {v : V} {l : List (Nat → Int)} (h : Rd H v (rowL .u16 12) l) (hm : l.length ≤ 9223372036854775806) :
    Cal Tryz.prog 44 [v] H fun u H' => u = .v (.int .i64 (strC l)) ∧ H' = H := by
  have hsol := h.solid
  have hL := h.lenV (P := Tryz.prog) slTy25
  refine cal_fn 10 mixed Tryz.func44 Tryz.ntmps44 Tryz.results44 rfl rfl rfl fun hw cx hx hq => ?_
  cases e1 : okB l
  · repeat (first | (simp only [go_sem, Int.reduceLT, Int.reduceLE, Int.reduceEq, Int.reduceToNat, hsol, e1]) | ((with_reducible refine And.intro ?_ ?_); omega) | ((with_reducible refine isSK ?_); first | (refine call_ret (validBook h hm) (by simp only [go_sem, Int.reduceLT, Int.reduceLE, Int.reduceEq, Int.reduceToNat, hsol, e1]) ?_)) | ((with_reducible refine And.intro ?_ ?_); first | (with_reducible rfl) | assumption | (simp only [go_sem]; done)))
    refine ret_same hq _ (.inl rfl) ?_
    simp [go_sem, strC, e1]
  by_cases e2 : l.length < 2
  · have e2' : ((l.length : Int) < 2) = True := eq_true (by omega)
    repeat (first | (simp only [go_sem, Int.reduceLT, Int.reduceLE, Int.reduceEq, Int.reduceToNat, hsol, hL, e1, e2']) | ((with_reducible refine And.intro ?_ ?_); omega) | ((with_reducible refine isSK ?_); first | (refine call_ret (validBook h hm) (by simp only [go_sem, Int.reduceLT, Int.reduceLE, Int.reduceEq, Int.reduceToNat, hsol, hL, e1, e2']) ?_)) | ((with_reducible refine And.intro ?_ ?_); first | (with_reducible rfl) | assumption | (simp only [go_sem]; done)))
    refine ret_same hq _ (.inl rfl) ?_
    simp [go_sem, strC, e1, e2]
  · have e2' : ((l.length : Int) < 2) = False := eq_false (by omega)
    repeat (first | (simp only [go_sem, Int.reduceLT, Int.reduceLE, Int.reduceEq, Int.reduceToNat, hsol, hL, e1, e2']) | ((with_reducible refine And.intro ?_ ?_); omega) | ((with_reducible refine isSK ?_); first | (refine call_ret (validBook h hm) (by simp only [go_sem, Int.reduceLT, Int.reduceLE, Int.reduceEq, Int.reduceToNat, hsol, hL, e1, e2']) ?_)) | ((with_reducible refine And.intro ?_ ?_); first | (with_reducible rfl) | assumption | (simp only [go_sem]; done)))
    refine ret_same hq _ (.inl rfl) ?_
    simp [go_sem, strC, e1, e2]
theorem specStrangePage {H : List Blk} {v : V} {l : List (Nat → Int)} (h : Rd H v (rowL .u16 12) l) (hm : l.length ≤ 1000000) (hR : ∀ f ∈ l, R16 f) :
    Cal Tryz.prog 15 [v] H fun u H' => u = .t [.v (.int .i64 (if strC l = 0 then (bS l (l.length - 1) : Int) else 0)), .v (.int .i64 (if strC l = 0 then stg l (bS l (l.length - 1)) else 0)), .v (.int .i64 (strC l))] ∧ H' = H := by
  have hsol := h.solid
  have hL := h.lenV (P := Tryz.prog) slTy25
  refine cal_fn 30 mixed Tryz.func15 Tryz.ntmps15 Tryz.results15 rfl rfl rfl fun hw cx hx hq => ?_
  cases e1 : okB l
  · repeat (first | (simp only [go_sem, Int.reduceLT, Int.reduceLE, Int.reduceEq, Int.reduceToNat, hsol, e1]) | ((with_reducible refine And.intro ?_ ?_); omega) | ((with_reducible refine isSK ?_); first | (refine call_ret (l02Ok h (by omega)) (by simp only [go_sem, Int.reduceLT, Int.reduceLE, Int.reduceEq, Int.reduceToNat, hsol, e1]) ?_)) | ((with_reducible refine And.intro ?_ ?_); first | (with_reducible rfl) | assumption | (simp only [go_sem]; done)))
    refine ret_same hq _ (.inl rfl) ?_
    simp [go_sem, strC, e1]
  have h12 := okB_12 e1 hR
  have h40 := (okB_iff.1 e1).1
  by_cases e2 : l.length < 2
  · have e2' : ((l.length : Int) < 2) = True := eq_true (by omega)
    repeat (first | (simp only [go_sem, Int.reduceLT, Int.reduceLE, Int.reduceEq, Int.reduceToNat, hsol, hL, e1, e2']) | ((with_reducible refine And.intro ?_ ?_); omega) | ((with_reducible refine isSK ?_); first | (refine call_ret (l02Ok h (by omega)) (by simp only [go_sem, Int.reduceLT, Int.reduceLE, Int.reduceEq, Int.reduceToNat, hsol, hL, e1, e2']) ?_)) | ((with_reducible refine And.intro ?_ ?_); first | (with_reducible rfl) | assumption | (simp only [go_sem]; done)))
    refine ret_same hq _ (.inl rfl) ?_
    simp [go_sem, strC, e1, e2]
  have e2' : ((l.length : Int) < 2) = False := eq_false (by omega)
  have hc0 : strC l = 0 := by simp [strC, e1, e2]
  repeat (first | (simp only [go_sem, Int.reduceLT, Int.reduceLE, Int.reduceEq, Int.reduceToNat, hsol, hL, e1, e2']) | ((with_reducible refine And.intro ?_ ?_); omega) | ((with_reducible refine isSK ?_); first | (refine call_ret (l02Ok h (by omega)) (by simp only [go_sem, Int.reduceLT, Int.reduceLE, Int.reduceEq, Int.reduceToNat, hsol, hL, e1, e2']) ?_)) | ((with_reducible refine And.intro ?_ ?_); first | (with_reducible rfl) | assumption | (simp only [go_sem]; done)))
  refine WK_for (fun n : Nat => ⟨[v, .any, .any, .any, .any, .v (.int .i64 (bS l (n - 1))), .v (.int .i64 n)] ++ junk 24, H⟩) (fun n => 1 ≤ n ∧ n ≤ l.length) (fun n => l.length - n) 1 (Weak.slots ?_) ?_ fun n hn => ?_
  · simp [go_sem, bS]
  · simp; omega
  have hb := bS_le l (n - 1)
  rcases Int.lt_or_le (n : Int) l.length with hc | hc
  · have hsucc : bS l n = if stg l (bS l (n - 1)) < stg l n then n else bS l (n - 1) := by
      obtain ⟨m, rfl⟩ : ∃ m, n = m + 1 := ⟨n - 1, by omega⟩
      rfl
    generalize hq0 : bS l (n - 1) = q0 at hb hsucc ⊢
    have hs1 := l04Strange (i := n) h h12 (by omega) (by omega) h40
    have hs2 := l04Strange (i := q0) h h12 (by omega) (by omega) h40
    by_cases e3 : stg l q0 < stg l n
    · rw [if_pos e3] at hsucc
      repeat (first | (simp only [go_sem, Int.reduceLT, Int.reduceLE, Int.reduceEq, Int.reduceToNat, hsol, hL, hc, e3]) | ((with_reducible refine And.intro ?_ ?_); omega) | ((with_reducible refine isSK ?_); first | (refine call_ret (hs1) (by simp only [go_sem, Int.reduceLT, Int.reduceLE, Int.reduceEq, Int.reduceToNat, hsol, hL, hc, e3]) ?_) | (refine call_ret (hs2) (by simp only [go_sem, Int.reduceLT, Int.reduceLE, Int.reduceEq, Int.reduceToNat, hsol, hL, hc, e3]) ?_)) | ((with_reducible refine And.intro ?_ ?_); first | (with_reducible rfl) | assumption | (simp only [go_sem]; done)))
      refine EK_again (n + 1) ?_ ⟨by omega, by omega⟩ (by omega)
      rw [Nat.add_sub_cancel, hsucc]
      exact Weak.slots (by simp [go_sem])
    · rw [if_neg e3] at hsucc
      repeat (first | (simp only [go_sem, Int.reduceLT, Int.reduceLE, Int.reduceEq, Int.reduceToNat, hsol, hL, hc, e3]) | ((with_reducible refine And.intro ?_ ?_); omega) | ((with_reducible refine isSK ?_); first | (refine call_ret (hs1) (by simp only [go_sem, Int.reduceLT, Int.reduceLE, Int.reduceEq, Int.reduceToNat, hsol, hL, hc, e3]) ?_) | (refine call_ret (hs2) (by simp only [go_sem, Int.reduceLT, Int.reduceLE, Int.reduceEq, Int.reduceToNat, hsol, hL, hc, e3]) ?_)) | ((with_reducible refine And.intro ?_ ?_); first | (with_reducible rfl) | assumption | (simp only [go_sem]; done)))
      refine EK_again (n + 1) ?_ ⟨by omega, by omega⟩ (by omega)
      rw [Nat.add_sub_cancel, hsucc]
      exact Weak.slots (by simp [go_sem])
  · have : n = l.length := by omega
    subst this
    generalize hq0 : bS l (l.length - 1) = q0 at hb ⊢
    have hs2 := l04Strange (i := q0) h h12 (by omega) (by omega) h40
    repeat (first | (simp only [go_sem, Int.reduceLT, Int.reduceLE, Int.reduceEq, Int.reduceToNat, hsol, hL, Int.not_lt.2 hc]) | ((with_reducible refine And.intro ?_ ?_); omega) | ((with_reducible refine isSK ?_); first | (refine call_ret (hs2) (by simp only [go_sem, Int.reduceLT, Int.reduceLE, Int.reduceEq, Int.reduceToNat, hsol, hL, Int.not_lt.2 hc]) ?_)) | ((with_reducible refine And.intro ?_ ?_); first | (with_reducible rfl) | assumption | (simp only [go_sem]; done)))
    refine ret_same hq _ (.inl rfl) ?_
    simp [go_sem, hc0, hq0]
theorem implStrangePage {H : List Blk} {v : V} {l : List (Nat → Int)} (h : Rd H v (rowL .u16 12) l) (hm : l.length ≤ 1000000) (hR : ∀ f ∈ l, R16 f) :
    Cal Tryz.prog 14 [v] H fun u H' => u = .t [.v (.int .i64 (if strC l = 0 then (bS l (l.length - 1) : Int) else 0)), .v (.int .i64 (if strC l = 0 then stg l (bS l (l.length - 1)) else 0)), .v (.int .i64 (strC l))] ∧ H' = H := by
  have hsol := h.solid
  have hL := h.lenV (P := Tryz.prog) slTy25
  refine cal_fn 91 mixed Tryz.func14 Tryz.ntmps14 Tryz.results14 rfl rfl rfl fun hw cx hx hq => ?_
  by_cases e1 : strC l = 0
  case neg =>
    repeat (first | (simp only [go_sem, Int.reduceLT, Int.reduceLE, Int.reduceEq, Int.reduceToNat, hsol, e1]) | ((with_reducible refine And.intro ?_ ?_); omega) | ((with_reducible refine isSK ?_); first | (refine call_ret (checkTwo h (by omega)) (by simp only [go_sem, Int.reduceLT, Int.reduceLE, Int.reduceEq, Int.reduceToNat, hsol, e1]) ?_)) | ((with_reducible refine isMC ?_); first | (refine mcall_ret (checkTwo h (by omega)) (by simp only [go_sem, Int.reduceLT, Int.reduceLE, Int.reduceEq, Int.reduceToNat, hsol, e1]) (by simp only [go_sem, Int.reduceLT, Int.reduceLE, Int.reduceEq, Int.reduceToNat, hsol, e1]) ?_)) | ((with_reducible refine isWKr (id := 12) ?_); refine WK_drawUp 12 [[],[0],[0,1],[],[3],[3,4],[0,1,2,3,4,5],[0,1,2,3,4,5,6]] 6 (by kernel_rfl) ?_; dsimp only [List.take, List.drop]) | ((with_reducible refine isWKr (id := 14) ?_); refine WK_drawUp 14 [[],[],[1],[0,1,2],[0,1,2,3],[],[],[5,6],[5,6,7],[0,1,2,3,4,5,6,7,8],[0,1,2,3,4,5,6,7,8,9]] 9 (by kernel_rfl) ?_; dsimp only [List.take, List.drop]) | ((with_reducible refine isWKr (id := 10) ?_); refine WK_drawAt 10 [[],[],[1],[0,1,2],[0,1,2,3],[],[],[5,6],[5,6,7],[0,1,2,3,4,5,6,7,8],[],[],[10,11],[10,11,12],[],[],[15],[14,15,16],[14,15,16,17],[0,1,2,3,4,5,6,7,8,9,10,11,12,13,14,15,16,17,18],[0,1,2,3,4,5,6,7,8,9,10,11,12,13,14,15,16,17,18,19],[],[],[22],[21,22,23],[21,22,23,24],[],[],[27],[26,27,28],[26,27,28,29],[0,1,2,3,4,5,6,7,8,9,10,11,12,13,14,15,16,17,18,19,21,22,23,24,25,26,27,28,29,30],[0,1,2,3,4,5,6,7,8,9,10,11,12,13,14,15,16,17,18,19,20,21,22,23,24,25,26,27,28,29,30,31],[0,1,2,3,4,5,6,7,8,9,10,11,12,13,14,15,16,17,18,19,20,21,22,23,24,25,26,27,28,29,30,31,32]] (by kernel_rfl) ?_) | ((with_reducible refine And.intro ?_ ?_); first | (with_reducible rfl) | assumption | (simp only [go_sem]; done)))
    refine ret_same hq _ (.inl rfl) ?_
    simp [go_sem, e1]
  have ho := strC_ok e1
  have h12 := okB_12 ho.1 hR
  have h40 := (okB_iff.1 ho.1).1
  obtain ⟨i0, off, c, b, rfl, hat, hf⟩ := h.full (by omega)
  have hfl := Flat.flen (flat_rowL .u16 12) l
  rw [hfl] at hf
  repeat (first | (simp only [go_sem, Int.reduceLT, Int.reduceLE, Int.reduceEq, Int.reduceToNat, hsol, e1]) | ((with_reducible refine And.intro ?_ ?_); omega) | ((with_reducible refine isSK ?_); first | (refine call_ret (checkTwo h (by omega)) (by simp only [go_sem, Int.reduceLT, Int.reduceLE, Int.reduceEq, Int.reduceToNat, hsol, e1]) ?_)) | ((with_reducible refine isMC ?_); first | (refine mcall_ret (checkTwo h (by omega)) (by simp only [go_sem, Int.reduceLT, Int.reduceLE, Int.reduceEq, Int.reduceToNat, hsol, e1]) (by simp only [go_sem, Int.reduceLT, Int.reduceLE, Int.reduceEq, Int.reduceToNat, hsol, e1]) ?_)) | ((with_reducible refine isWKr (id := 12) ?_); refine WK_drawUp 12 [[],[0],[0,1],[],[3],[3,4],[0,1,2,3,4,5],[0,1,2,3,4,5,6]] 6 (by kernel_rfl) ?_; dsimp only [List.take, List.drop]) | ((with_reducible refine isWKr (id := 14) ?_); refine WK_drawUp 14 [[],[],[1],[0,1,2],[0,1,2,3],[],[],[5,6],[5,6,7],[0,1,2,3,4,5,6,7,8],[0,1,2,3,4,5,6,7,8,9]] 9 (by kernel_rfl) ?_; dsimp only [List.take, List.drop]) | ((with_reducible refine isWKr (id := 10) ?_); refine WK_drawAt 10 [[],[],[1],[0,1,2],[0,1,2,3],[],[],[5,6],[5,6,7],[0,1,2,3,4,5,6,7,8],[],[],[10,11],[10,11,12],[],[],[15],[14,15,16],[14,15,16,17],[0,1,2,3,4,5,6,7,8,9,10,11,12,13,14,15,16,17,18],[0,1,2,3,4,5,6,7,8,9,10,11,12,13,14,15,16,17,18,19],[],[],[22],[21,22,23],[21,22,23,24],[],[],[27],[26,27,28],[26,27,28,29],[0,1,2,3,4,5,6,7,8,9,10,11,12,13,14,15,16,17,18,19,21,22,23,24,25,26,27,28,29,30],[0,1,2,3,4,5,6,7,8,9,10,11,12,13,14,15,16,17,18,19,20,21,22,23,24,25,26,27,28,29,30,31],[0,1,2,3,4,5,6,7,8,9,10,11,12,13,14,15,16,17,18,19,20,21,22,23,24,25,26,27,28,29,30,31,32]] (by kernel_rfl) ?_) | ((with_reducible refine And.intro ?_ ?_); first | (with_reducible rfl) | assumption | (simp only [go_sem]; done)))
  refine WK_for (fun n : Nat => ⟨[.s i0 off l.length c, .any, .any, .any, .any, .any, .v (.int .i64 (if n = 0 then -1 else (bS l (n - 1) : Int))), .v (.int .i64 (if n = 0 then 0 else stg l (bS l (n - 1)))), .v (.int .i64 ((l.length : Int) - 1)), .any, .any, .any, .any, .any, .any, .any, .any, .any, .any, .any, .v (.int .i64 l.length), .v (.int .i64 n)] ++ junk 70, H⟩) (fun n => n ≤ l.length) (fun n => l.length - n) 0 (Weak.slots ?_) ?_ fun n hn => ?_
  · simp [go_sem]
  · simp
  rcases Int.lt_or_le (n : Int) l.length with hc | hc
  · have hj : n < l.length := by omega
    have en := pg_at hj
    have an := hat.elem (rowL .u16 12) 12 hz12 hj
    rw [← en] at an
    have p12 := pg_12 h12
    by_cases n0 : n = 0
    · subst n0
      have a1 := hat.elem (rowL .u16 12) 12 hz12 (show 1 < l.length by omega)
      rw [← pg_at (show 1 < l.length by omega)] at a1
      have z0 : ((0 : Int) < (l.length : Int)) = True := eq_true (by omega)
      have an0 : seg b.cells off 12 = rowL .u16 12 (pg l 0) := by simpa using an
      have a10 : seg b.cells (off + 12) 12 = rowL .u16 12 (pg l 1) := by simpa using a1
      repeat (first | (simp only [go_sem, Int.reduceLT, Int.reduceLE, Int.reduceEq, Int.reduceToNat, hat.get, hat.live, an0, a10, z0, Int.natCast_zero, Nat.zero_mul, Nat.add_zero]) | ((with_reducible refine And.intro ?_ ?_); omega) | ((with_reducible refine isSK ?_); first | (refine call_ret (jump (p12 _) (p12 _)) (by simp only [go_sem, Int.reduceLT, Int.reduceLE, Int.reduceEq, Int.reduceToNat, hat.get, hat.live, an0, a10, z0, Int.natCast_zero, Nat.zero_mul, Nat.add_zero]) ?_)) | ((with_reducible refine isMC ?_); first | (refine mcall_ret (jump (p12 _) (p12 _)) (by simp only [go_sem, Int.reduceLT, Int.reduceLE, Int.reduceEq, Int.reduceToNat, hat.get, hat.live, an0, a10, z0, Int.natCast_zero, Nat.zero_mul, Nat.add_zero]) (by simp only [go_sem, Int.reduceLT, Int.reduceLE, Int.reduceEq, Int.reduceToNat, hat.get, hat.live, an0, a10, z0, Int.natCast_zero, Nat.zero_mul, Nat.add_zero]) ?_)) | ((with_reducible refine isWKr (id := 12) ?_); refine WK_drawUp 12 [[],[0],[0,1],[],[3],[3,4],[0,1,2,3,4,5],[0,1,2,3,4,5,6]] 6 (by kernel_rfl) ?_; dsimp only [List.take, List.drop]) | ((with_reducible refine isWKr (id := 14) ?_); refine WK_drawUp 14 [[],[],[1],[0,1,2],[0,1,2,3],[],[],[5,6],[5,6,7],[0,1,2,3,4,5,6,7,8],[0,1,2,3,4,5,6,7,8,9]] 9 (by kernel_rfl) ?_; dsimp only [List.take, List.drop]) | ((with_reducible refine isWKr (id := 10) ?_); refine WK_drawAt 10 [[],[],[1],[0,1,2],[0,1,2,3],[],[],[5,6],[5,6,7],[0,1,2,3,4,5,6,7,8],[],[],[10,11],[10,11,12],[],[],[15],[14,15,16],[14,15,16,17],[0,1,2,3,4,5,6,7,8,9,10,11,12,13,14,15,16,17,18],[0,1,2,3,4,5,6,7,8,9,10,11,12,13,14,15,16,17,18,19],[],[],[22],[21,22,23],[21,22,23,24],[],[],[27],[26,27,28],[26,27,28,29],[0,1,2,3,4,5,6,7,8,9,10,11,12,13,14,15,16,17,18,19,21,22,23,24,25,26,27,28,29,30],[0,1,2,3,4,5,6,7,8,9,10,11,12,13,14,15,16,17,18,19,20,21,22,23,24,25,26,27,28,29,30,31],[0,1,2,3,4,5,6,7,8,9,10,11,12,13,14,15,16,17,18,19,20,21,22,23,24,25,26,27,28,29,30,31,32]] (by kernel_rfl) ?_) | ((with_reducible refine And.intro ?_ ?_); first | (with_reducible rfl) | assumption | (simp only [go_sem]; done)))
      refine EK_again 1 ?_ (by omega) (by omega)
      exact Weak.slots (by simp [go_sem, bS, stg, jmp])
    · have n1 : ((n : Int) = 0) = False := eq_false (by omega)
      have b0 : ∀ q : Nat, ((q : Int) < 0) = False := fun q => eq_false (by omega)
      have t0 : Int.toNat ((n : Int) - 1) = n - 1 := by omega
      have t1 : Int.toNat ((n : Int) + 1) = n + 1 := by omega
      have t2 : Int.toNat ((l.length : Int) - 1) = l.length - 1 := by omega
      have t3 : Int.toNat ((l.length : Int) - 1 - 1) = l.length - 1 - 1 := by omega
      have am := hat.elem (rowL .u16 12) 12 hz12 (show n - 1 < l.length by omega)
      rw [← pg_at (show n - 1 < l.length by omega)] at am
      have hsucc : bS l n = if stg l (bS l (n - 1)) < stg l n then n else bS l (n - 1) := by
        obtain ⟨m, rfl⟩ : ∃ m, n = m + 1 := ⟨n - 1, by omega⟩
        rfl
      have hj1 := jmp_le l (n - 1) n
      have hj2 := jmp_le l n (n + 1)
      have hj3 := jmp_le l (n - 1) (n + 1)
      unfold jmp at hj1 hj2 hj3
      by_cases e2 : n + 1 = l.length
      · have n2 : ((n : Int) = (l.length : Int) - 1) = True := eq_true (by omega)
        have e4 : l.length - 1 = n := by omega
        have hst : stg l n = jumpF (pg l (n - 1)) (pg l n) := by unfold stg; rw [if_neg n0, if_pos e2]; rfl
        rw [hst] at hsucc
        generalize hq0 : bS l (n - 1) = q0 at hsucc ⊢
        by_cases e3 : stg l q0 < jumpF (pg l (n - 1)) (pg l n)
        · rw [if_pos e3] at hsucc
          repeat (first | (simp only [go_sem, Int.reduceLT, Int.reduceLE, Int.reduceEq, Int.reduceToNat, hat.get, hat.live, an, am, hc, n0, n1, n2, t2, t3, e4, b0, hq0, e3]) | ((with_reducible refine And.intro ?_ ?_); omega) | ((with_reducible refine isSK ?_); first | (refine call_ret (jump (p12 _) (p12 _)) (by simp only [go_sem, Int.reduceLT, Int.reduceLE, Int.reduceEq, Int.reduceToNat, hat.get, hat.live, an, am, hc, n0, n1, n2, t2, t3, e4, b0, hq0, e3]) ?_)) | ((with_reducible refine isMC ?_); first | (refine mcall_ret (jump (p12 _) (p12 _)) (by simp only [go_sem, Int.reduceLT, Int.reduceLE, Int.reduceEq, Int.reduceToNat, hat.get, hat.live, an, am, hc, n0, n1, n2, t2, t3, e4, b0, hq0, e3]) (by simp only [go_sem, Int.reduceLT, Int.reduceLE, Int.reduceEq, Int.reduceToNat, hat.get, hat.live, an, am, hc, n0, n1, n2, t2, t3, e4, b0, hq0, e3]) ?_)) | ((with_reducible refine isWKr (id := 12) ?_); refine WK_drawUp 12 [[],[0],[0,1],[],[3],[3,4],[0,1,2,3,4,5],[0,1,2,3,4,5,6]] 6 (by kernel_rfl) ?_; dsimp only [List.take, List.drop]) | ((with_reducible refine isWKr (id := 14) ?_); refine WK_drawUp 14 [[],[],[1],[0,1,2],[0,1,2,3],[],[],[5,6],[5,6,7],[0,1,2,3,4,5,6,7,8],[0,1,2,3,4,5,6,7,8,9]] 9 (by kernel_rfl) ?_; dsimp only [List.take, List.drop]) | ((with_reducible refine isWKr (id := 10) ?_); refine WK_drawAt 10 [[],[],[1],[0,1,2],[0,1,2,3],[],[],[5,6],[5,6,7],[0,1,2,3,4,5,6,7,8],[],[],[10,11],[10,11,12],[],[],[15],[14,15,16],[14,15,16,17],[0,1,2,3,4,5,6,7,8,9,10,11,12,13,14,15,16,17,18],[0,1,2,3,4,5,6,7,8,9,10,11,12,13,14,15,16,17,18,19],[],[],[22],[21,22,23],[21,22,23,24],[],[],[27],[26,27,28],[26,27,28,29],[0,1,2,3,4,5,6,7,8,9,10,11,12,13,14,15,16,17,18,19,21,22,23,24,25,26,27,28,29,30],[0,1,2,3,4,5,6,7,8,9,10,11,12,13,14,15,16,17,18,19,20,21,22,23,24,25,26,27,28,29,30,31],[0,1,2,3,4,5,6,7,8,9,10,11,12,13,14,15,16,17,18,19,20,21,22,23,24,25,26,27,28,29,30,31,32]] (by kernel_rfl) ?_) | ((with_reducible refine And.intro ?_ ?_); first | (with_reducible rfl) | assumption | (simp only [go_sem]; done)))
          refine EK_again (n + 1) ?_ (by omega) (by omega)
          exact Weak.slots (by simp [go_sem, hsucc, hst])
        · rw [if_neg e3] at hsucc
          repeat (first | (simp only [go_sem, Int.reduceLT, Int.reduceLE, Int.reduceEq, Int.reduceToNat, hat.get, hat.live, an, am, hc, n0, n1, n2, t2, t3, e4, b0, hq0, e3]) | ((with_reducible refine And.intro ?_ ?_); omega) | ((with_reducible refine isSK ?_); first | (refine call_ret (jump (p12 _) (p12 _)) (by simp only [go_sem, Int.reduceLT, Int.reduceLE, Int.reduceEq, Int.reduceToNat, hat.get, hat.live, an, am, hc, n0, n1, n2, t2, t3, e4, b0, hq0, e3]) ?_)) | ((with_reducible refine isMC ?_); first | (refine mcall_ret (jump (p12 _) (p12 _)) (by simp only [go_sem, Int.reduceLT, Int.reduceLE, Int.reduceEq, Int.reduceToNat, hat.get, hat.live, an, am, hc, n0, n1, n2, t2, t3, e4, b0, hq0, e3]) (by simp only [go_sem, Int.reduceLT, Int.reduceLE, Int.reduceEq, Int.reduceToNat, hat.get, hat.live, an, am, hc, n0, n1, n2, t2, t3, e4, b0, hq0, e3]) ?_)) | ((with_reducible refine isWKr (id := 12) ?_); refine WK_drawUp 12 [[],[0],[0,1],[],[3],[3,4],[0,1,2,3,4,5],[0,1,2,3,4,5,6]] 6 (by kernel_rfl) ?_; dsimp only [List.take, List.drop]) | ((with_reducible refine isWKr (id := 14) ?_); refine WK_drawUp 14 [[],[],[1],[0,1,2],[0,1,2,3],[],[],[5,6],[5,6,7],[0,1,2,3,4,5,6,7,8],[0,1,2,3,4,5,6,7,8,9]] 9 (by kernel_rfl) ?_; dsimp only [List.take, List.drop]) | ((with_reducible refine isWKr (id := 10) ?_); refine WK_drawAt 10 [[],[],[1],[0,1,2],[0,1,2,3],[],[],[5,6],[5,6,7],[0,1,2,3,4,5,6,7,8],[],[],[10,11],[10,11,12],[],[],[15],[14,15,16],[14,15,16,17],[0,1,2,3,4,5,6,7,8,9,10,11,12,13,14,15,16,17,18],[0,1,2,3,4,5,6,7,8,9,10,11,12,13,14,15,16,17,18,19],[],[],[22],[21,22,23],[21,22,23,24],[],[],[27],[26,27,28],[26,27,28,29],[0,1,2,3,4,5,6,7,8,9,10,11,12,13,14,15,16,17,18,19,21,22,23,24,25,26,27,28,29,30],[0,1,2,3,4,5,6,7,8,9,10,11,12,13,14,15,16,17,18,19,20,21,22,23,24,25,26,27,28,29,30,31],[0,1,2,3,4,5,6,7,8,9,10,11,12,13,14,15,16,17,18,19,20,21,22,23,24,25,26,27,28,29,30,31,32]] (by kernel_rfl) ?_) | ((with_reducible refine And.intro ?_ ?_); first | (with_reducible rfl) | assumption | (simp only [go_sem]; done)))
          refine EK_again (n + 1) ?_ (by omega) (by omega)
          exact Weak.slots (by simp [go_sem, hsucc, hst])
      · have n2 : ((n : Int) = (l.length : Int) - 1) = False := eq_false (by omega)
        have ap := hat.elem (rowL .u16 12) 12 hz12 (show n + 1 < l.length by omega)
        rw [← pg_at (show n + 1 < l.length by omega)] at ap
        have hst : stg l n = jumpF (pg l (n - 1)) (pg l n) + jumpF (pg l n) (pg l (n + 1)) - jumpF (pg l (n - 1)) (pg l (n + 1)) := by unfold stg; rw [if_neg n0, if_neg e2]; rfl
        rw [hst] at hsucc
        generalize hq0 : bS l (n - 1) = q0 at hsucc ⊢
        by_cases e3 : stg l q0 < jumpF (pg l (n - 1)) (pg l n) + jumpF (pg l n) (pg l (n + 1)) - jumpF (pg l (n - 1)) (pg l (n + 1))
        · rw [if_pos e3] at hsucc
          repeat (first | (simp only [go_sem, Int.reduceLT, Int.reduceLE, Int.reduceEq, Int.reduceToNat, hat.get, hat.live, an, am, ap, hc, n0, n1, n2, t0, t1, b0, hq0, e3]) | ((with_reducible refine And.intro ?_ ?_); omega) | ((with_reducible refine isSK ?_); first | (refine call_ret (jump (p12 _) (p12 _)) (by simp only [go_sem, Int.reduceLT, Int.reduceLE, Int.reduceEq, Int.reduceToNat, hat.get, hat.live, an, am, ap, hc, n0, n1, n2, t0, t1, b0, hq0, e3]) ?_)) | ((with_reducible refine isMC ?_); first | (refine mcall_ret (jump (p12 _) (p12 _)) (by simp only [go_sem, Int.reduceLT, Int.reduceLE, Int.reduceEq, Int.reduceToNat, hat.get, hat.live, an, am, ap, hc, n0, n1, n2, t0, t1, b0, hq0, e3]) (by simp only [go_sem, Int.reduceLT, Int.reduceLE, Int.reduceEq, Int.reduceToNat, hat.get, hat.live, an, am, ap, hc, n0, n1, n2, t0, t1, b0, hq0, e3]) ?_)) | ((with_reducible refine isWKr (id := 12) ?_); refine WK_drawUp 12 [[],[0],[0,1],[],[3],[3,4],[0,1,2,3,4,5],[0,1,2,3,4,5,6]] 6 (by kernel_rfl) ?_; dsimp only [List.take, List.drop]) | ((with_reducible refine isWKr (id := 14) ?_); refine WK_drawUp 14 [[],[],[1],[0,1,2],[0,1,2,3],[],[],[5,6],[5,6,7],[0,1,2,3,4,5,6,7,8],[0,1,2,3,4,5,6,7,8,9]] 9 (by kernel_rfl) ?_; dsimp only [List.take, List.drop]) | ((with_reducible refine isWKr (id := 10) ?_); refine WK_drawAt 10 [[],[],[1],[0,1,2],[0,1,2,3],[],[],[5,6],[5,6,7],[0,1,2,3,4,5,6,7,8],[],[],[10,11],[10,11,12],[],[],[15],[14,15,16],[14,15,16,17],[0,1,2,3,4,5,6,7,8,9,10,11,12,13,14,15,16,17,18],[0,1,2,3,4,5,6,7,8,9,10,11,12,13,14,15,16,17,18,19],[],[],[22],[21,22,23],[21,22,23,24],[],[],[27],[26,27,28],[26,27,28,29],[0,1,2,3,4,5,6,7,8,9,10,11,12,13,14,15,16,17,18,19,21,22,23,24,25,26,27,28,29,30],[0,1,2,3,4,5,6,7,8,9,10,11,12,13,14,15,16,17,18,19,20,21,22,23,24,25,26,27,28,29,30,31],[0,1,2,3,4,5,6,7,8,9,10,11,12,13,14,15,16,17,18,19,20,21,22,23,24,25,26,27,28,29,30,31,32]] (by kernel_rfl) ?_) | ((with_reducible refine And.intro ?_ ?_); first | (with_reducible rfl) | assumption | (simp only [go_sem]; done)))
          refine EK_again (n + 1) ?_ (by omega) (by omega)
          exact Weak.slots (by simp [go_sem, hsucc, hst])
        · rw [if_neg e3] at hsucc
          repeat (first | (simp only [go_sem, Int.reduceLT, Int.reduceLE, Int.reduceEq, Int.reduceToNat, hat.get, hat.live, an, am, ap, hc, n0, n1, n2, t0, t1, b0, hq0, e3]) | ((with_reducible refine And.intro ?_ ?_); omega) | ((with_reducible refine isSK ?_); first | (refine call_ret (jump (p12 _) (p12 _)) (by simp only [go_sem, Int.reduceLT, Int.reduceLE, Int.reduceEq, Int.reduceToNat, hat.get, hat.live, an, am, ap, hc, n0, n1, n2, t0, t1, b0, hq0, e3]) ?_)) | ((with_reducible refine isMC ?_); first | (refine mcall_ret (jump (p12 _) (p12 _)) (by simp only [go_sem, Int.reduceLT, Int.reduceLE, Int.reduceEq, Int.reduceToNat, hat.get, hat.live, an, am, ap, hc, n0, n1, n2, t0, t1, b0, hq0, e3]) (by simp only [go_sem, Int.reduceLT, Int.reduceLE, Int.reduceEq, Int.reduceToNat, hat.get, hat.live, an, am, ap, hc, n0, n1, n2, t0, t1, b0, hq0, e3]) ?_)) | ((with_reducible refine isWKr (id := 12) ?_); refine WK_drawUp 12 [[],[0],[0,1],[],[3],[3,4],[0,1,2,3,4,5],[0,1,2,3,4,5,6]] 6 (by kernel_rfl) ?_; dsimp only [List.take, List.drop]) | ((with_reducible refine isWKr (id := 14) ?_); refine WK_drawUp 14 [[],[],[1],[0,1,2],[0,1,2,3],[],[],[5,6],[5,6,7],[0,1,2,3,4,5,6,7,8],[0,1,2,3,4,5,6,7,8,9]] 9 (by kernel_rfl) ?_; dsimp only [List.take, List.drop]) | ((with_reducible refine isWKr (id := 10) ?_); refine WK_drawAt 10 [[],[],[1],[0,1,2],[0,1,2,3],[],[],[5,6],[5,6,7],[0,1,2,3,4,5,6,7,8],[],[],[10,11],[10,11,12],[],[],[15],[14,15,16],[14,15,16,17],[0,1,2,3,4,5,6,7,8,9,10,11,12,13,14,15,16,17,18],[0,1,2,3,4,5,6,7,8,9,10,11,12,13,14,15,16,17,18,19],[],[],[22],[21,22,23],[21,22,23,24],[],[],[27],[26,27,28],[26,27,28,29],[0,1,2,3,4,5,6,7,8,9,10,11,12,13,14,15,16,17,18,19,21,22,23,24,25,26,27,28,29,30],[0,1,2,3,4,5,6,7,8,9,10,11,12,13,14,15,16,17,18,19,20,21,22,23,24,25,26,27,28,29,30,31],[0,1,2,3,4,5,6,7,8,9,10,11,12,13,14,15,16,17,18,19,20,21,22,23,24,25,26,27,28,29,30,31,32]] (by kernel_rfl) ?_) | ((with_reducible refine And.intro ?_ ?_); first | (with_reducible rfl) | assumption | (simp only [go_sem]; done)))
          refine EK_again (n + 1) ?_ (by omega) (by omega)
          exact Weak.slots (by simp [go_sem, hsucc, hst])
  · have : n = l.length := by omega
    subst this
    have hne : ¬ l.length = 0 := by omega
    repeat (first | (simp only [go_sem, Int.reduceLT, Int.reduceLE, Int.reduceEq, Int.reduceToNat, Int.not_lt.2 hc, hne]) | ((with_reducible refine And.intro ?_ ?_); omega) | ((with_reducible refine isWKr (id := 12) ?_); refine WK_drawUp 12 [[],[0],[0,1],[],[3],[3,4],[0,1,2,3,4,5],[0,1,2,3,4,5,6]] 6 (by kernel_rfl) ?_; dsimp only [List.take, List.drop]) | ((with_reducible refine isWKr (id := 14) ?_); refine WK_drawUp 14 [[],[],[1],[0,1,2],[0,1,2,3],[],[],[5,6],[5,6,7],[0,1,2,3,4,5,6,7,8],[0,1,2,3,4,5,6,7,8,9]] 9 (by kernel_rfl) ?_; dsimp only [List.take, List.drop]) | ((with_reducible refine isWKr (id := 10) ?_); refine WK_drawAt 10 [[],[],[1],[0,1,2],[0,1,2,3],[],[],[5,6],[5,6,7],[0,1,2,3,4,5,6,7,8],[],[],[10,11],[10,11,12],[],[],[15],[14,15,16],[14,15,16,17],[0,1,2,3,4,5,6,7,8,9,10,11,12,13,14,15,16,17,18],[0,1,2,3,4,5,6,7,8,9,10,11,12,13,14,15,16,17,18,19],[],[],[22],[21,22,23],[21,22,23,24],[],[],[27],[26,27,28],[26,27,28,29],[0,1,2,3,4,5,6,7,8,9,10,11,12,13,14,15,16,17,18,19,21,22,23,24,25,26,27,28,29,30],[0,1,2,3,4,5,6,7,8,9,10,11,12,13,14,15,16,17,18,19,20,21,22,23,24,25,26,27,28,29,30,31],[0,1,2,3,4,5,6,7,8,9,10,11,12,13,14,15,16,17,18,19,20,21,22,23,24,25,26,27,28,29,30,31,32]] (by kernel_rfl) ?_) | ((with_reducible refine And.intro ?_ ?_); first | (with_reducible rfl) | assumption | (simp only [go_sem]; done)))
    refine ret_same hq _ (.inl rfl) ?_
    simp [go_sem, e1, hne]
end Go.Proofs.YtaekjojblkhfdaaGreat
namespace Go.Proofs.YtaekjojblkhfdaaGreat
open Go Go.Sx
open Go.RowKit
theorem filter_sub {L R : List Nat} (h : L.Sublist R) (hn : R.Nodup) : R.filter (fun k => decide (k ∈ L)) = L := by
  induction h with
  | slnil => rfl
  | @cons l r a h ih =>
    have ha : a ∉ l := fun hm => (List.nodup_cons.1 hn).1 (h.subset hm)
    rw [List.filter_cons, if_neg (by simpa using ha)]
    exact ih (List.nodup_cons.1 hn).2
  | @cons_cons l r a h ih =>
    have ha : a ∉ r := (List.nodup_cons.1 hn).1
    rw [List.filter_cons, if_pos (by simp)]
    congr 1
    rw [← ih (List.nodup_cons.1 hn).2]
    refine List.filter_congr fun k hk => ?_
    have : k ≠ a := fun e => ha (e ▸ hk)
    simp [this]
    exact fun hm => h.subset hm
theorem filter_two (p q : Nat → Bool) : ∀ R : List Nat, (R.filter p).length = (R.filter fun k => p k && q k).length + (R.filter fun k => p k && !q k).length
  | [] => rfl
  | a :: R => by
    have ih := filter_two p q R
    rw [List.filter_cons, List.filter_cons, List.filter_cons]
    cases p a <;> cases q a <;> simp <;> omega
theorem dot_flips_mem {x y : Nat} (hx : x < 12) : ∀ (l : List Nat) {f : Nat → Int}, l.Nodup → y * 12 + x ∈ l → dot (flips f l) x y = !dot f x y
  | [], _, _, h => by cases h
  | k :: l, f, hn, h => by
    show dot (flips (flipF f k) l) x y = _
    rcases List.mem_cons.1 h with e | h
    · have hno : ∀ j ∈ l, j ≠ y * 12 + x := fun j hj e2 => (List.nodup_cons.1 hn).1 (by rw [← e, ← e2]; exact hj)
      rw [dot_flips hx l hno, dot_flipF hx]
      simp [e]
    · rw [dot_flips_mem hx l (List.nodup_cons.1 hn).2 h, dot_flipF hx]
      have : k ≠ y * 12 + x := fun e => (List.nodup_cons.1 hn).1 (by rw [e]; exact h)
      simp [this]
theorem dotsF_nodup (f : Nat → Int) : (dotsF f).Nodup := List.nodup_range.filter _
theorem dot_morphF {f g : Nat → Int} (hf : R16 f) (hg : R16 g) {m x y : Nat} (hx : x < 12) (hy : y < 12) :
    dot (morphF f g m) x y = (dot f x y ^^ decide (y * 12 + x ∈ (dotsF (xorF f g)).take m)) := by
  unfold morphF
  by_cases h : y * 12 + x ∈ (dotsF (xorF f g)).take m
  · rw [dot_flips_mem hx _ ((List.take_sublist _ _).nodup (dotsF_nodup _)) h]; simp [h]
  · rw [dot_flips hx _ fun k hk e => h (e ▸ hk)]; simp [h]
theorem morphF_r16 {f g : Nat → Int} (hf : R16 f) (m : Nat) : R16 (morphF f g m) := flips_r16 _ hf
theorem mod_kd {k : Nat} : k / 12 * 12 + k % 12 = k := by omega
theorem jump_first {f g : Nat → Int} (hf : R16 f) (hg : R16 g) {m : Nat} (hm : m ≤ (dotsF (xorF f g)).length) : jumpF f (morphF f g m) = m := by
  have hsub : ((dotsF (xorF f g)).take m).Sublist (List.range 144) := (List.take_sublist _ _).trans List.filter_sublist
  have e : dotsF (xorF f (morphF f g m)) = (dotsF (xorF f g)).take m := by
    conv => rhs; rw [← filter_sub hsub List.nodup_range]
    unfold dotsF dotsTo
    refine List.filter_congr fun k hk => ?_
    have hk := List.mem_range.1 hk
    rw [dot_xorF hf (morphF_r16 hf m) (by omega), dot_morphF hf hg (by omega) (by omega), mod_kd]
    show _ = decide (k ∈ (dotsF (xorF f g)).take m)
    cases dot f (k % 12) (k / 12) <;> cases decide (k ∈ (dotsF (xorF f g)).take m) <;> rfl
  unfold jumpF
  rw [e, List.length_take, Nat.min_eq_left hm]
theorem jump_rest {f g : Nat → Int} (hf : R16 f) (hg : R16 g) {m : Nat} (hm : m ≤ (dotsF (xorF f g)).length) : jumpF (morphF f g m) g = jumpF f g - m := by
  have hsub : ((dotsF (xorF f g)).take m).Sublist (List.range 144) := (List.take_sublist _ _).trans List.filter_sublist
  have hLd : ∀ k ∈ (dotsF (xorF f g)).take m, dot (xorF f g) (k % 12) (k / 12) = true := fun k hk => (mem_dotsF.1 (List.mem_of_mem_take hk)).2
  have hdm : ∀ x y, x < 12 → y < 12 → dot (morphF f g m) x y = (dot f x y ^^ decide (y * 12 + x ∈ (dotsF (xorF f g)).take m)) := fun x y hx hy => dot_morphF hf hg hx hy
  have hlen : ((dotsF (xorF f g)).take m).length = m := by rw [List.length_take, Nat.min_eq_left hm]
  have hr := morphF_r16 (g := g) hf m
  generalize (dotsF (xorF f g)).take m = L at hsub hLd hdm hlen
  generalize morphF f g m = M at hdm hr ⊢
  have h1 := filter_two (fun k => dot (xorF f g) (k % 12) (k / 12)) (fun k => decide (k ∈ L)) (List.range 144)
  have e1 : (List.range 144).filter (fun k => dot (xorF f g) (k % 12) (k / 12) && decide (k ∈ L)) = L := by
    conv => rhs; rw [← filter_sub hsub List.nodup_range]
    refine List.filter_congr fun k hk => ?_
    by_cases h : k ∈ L
    · simp [h, hLd k h]
    · simp [h]
  have e2 : dotsF (xorF M g) = (List.range 144).filter (fun k => dot (xorF f g) (k % 12) (k / 12) && !decide (k ∈ L)) := by
    unfold dotsF dotsTo
    refine List.filter_congr fun k hk => ?_
    have hk := List.mem_range.1 hk
    rw [dot_xorF hr hg (by omega), hdm _ _ (by omega) (by omega), mod_kd]
    by_cases h : k ∈ L
    · have := hLd k h
      rw [dot_xorF hf hg (by omega)] at this ⊢
      simp only [h, decide_true, Bool.not_true, Bool.and_false]
      revert this
      cases dot f (k % 12) (k / 12) <;> cases dot g (k % 12) (k / 12) <;> simp
    · rw [dot_xorF hf hg (by omega)]
      simp [h]
  rw [e1, ← e2, hlen] at h1
  unfold jumpF
  have h3 : (dotsF (xorF f g)).length = m + (dotsF (xorF M g)).length := h1
  omega
theorem flipF_12 {f : Nat → Int} (h : F12 f) {k : Nat} : F12 (flipF f k) := fun j hj => by
  unfold flipF upd
  split
  · have := h (k / 12) (by omega)
    have h2 : (2 : Nat) ^ (k % 12) < 2 ^ 12 := Nat.pow_lt_pow_right (by omega) (Nat.mod_lt _ (by omega))
    have := Nat.xor_lt_two_pow (n := 12) (x := (f (k / 12)).toNat) (y := 2 ^ (k % 12)) (by omega) h2
    omega
  · exact h j hj
theorem flips_12 : ∀ (l : List Nat) {f : Nat → Int}, F12 f → F12 (flips f l)
  | [], _, h => h
  | k :: l, f, h => flips_12 l (flipF_12 h)
theorem morphF_12 {f g : Nat → Int} (hf : F12 f) (m : Nat) : F12 (morphF f g m) := flips_12 _ hf
end Go.Proofs.YtaekjojblkhfdaaGreat
