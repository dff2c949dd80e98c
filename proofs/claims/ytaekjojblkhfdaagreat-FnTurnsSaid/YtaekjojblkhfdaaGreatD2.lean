/- Contracts of functions of the translated program, by the walk. -/
import Derived.Test.YtaekjojblkhfdaaGreatFt0
import Derived.Test.YtaekjojblkhfdaaGreatB2
import Derived.Test.YtaekjojblkhfdaaGreatLD
set_option linter.unusedVariables false
set_option linter.unusedSimpArgs false
set_option maxRecDepth 8000
set_option maxHeartbeats 16000000
namespace Go.Proofs.YtaekjojblkhfdaaGreat
open Go Go.Sx
def jl (l : List (Nat → Int)) (n : Nat) : List Int := (List.range n).map fun k => jmp l k (k + 1)
theorem jl_len (l : List (Nat → Int)) (n : Nat) : (jl l n).length = n := by simp [jl]
theorem jl_succ (l : List (Nat → Int)) (n : Nat) : jl l (n + 1) = jl l n ++ [jmp l n (n + 1)] := by simp [jl, List.range_succ]
theorem jl_at {l : List (Nat → Int)} {n k : Nat} (h : k < n) : (jl l n)[k]'(by rw [jl_len]; exact h) = jmp l k (k + 1) := by simp [jl]
theorem jl_range {l : List (Nat → Int)} {n : Nat} : ∀ x ∈ jl l n, 0 ≤ x ∧ x ≤ 144 := fun x hx => by
  unfold jl at hx
  obtain ⟨k, _, rfl⟩ := List.mem_map.1 hx
  exact jmp_le l k (k + 1)
theorem flat_snoc {α : Type} (enc : α → List V) (l : List α) (a : α) : (l ++ [a]).flatMap enc = l.flatMap enc ++ enc a := by simp
theorem jumps {H : List Blk} {v : V} {l : List (Nat → Int)} (h : Rd H v (rowL .u16 12) l) (h12 : ∀ f ∈ l, F12 f) (hl : l.length ≤ 1000000) :
    Cal Tryz.prog 49 [v] H fun u H' => u = .s H.length 0 (jl l (l.length - 1)).length (.u 0) ∧ H' = H ++ [⟨(jl l (l.length - 1)).flatMap i64C, 2, .own 1⟩] := by
  have hsol := h.solid
  have hL := h.lenV (P := Tryz.prog) slTy25
  refine cal_fn 25 mixed Tryz.func49 Tryz.ntmps49 Tryz.results49 rfl rfl rfl fun hw cx hx hq => ?_
  repeat (first | (simp only [go_sem, Int.reduceLT, Int.reduceLE, Int.reduceEq, Int.reduceToNat, hsol]) | ((with_reducible refine And.intro ?_ ?_); omega) | ((with_reducible refine isWKr (id := 5) ?_); refine WK_drawUp 5 [[],[],[],[2],[1,2,3],[1,2,3,4],[],[],[6,7],[6,7,8],[1,2,3,4,5,6,7,8,9],[1,2,3,4,5,6,7,8,9,10],[0,1,2,3,4,5,6,7,8,9,10,11],[0,1,2,3,4,5,6,7,8,9,10,11,12]] 12 (by kernel_rfl) ?_; dsimp only [List.take, List.drop]) | ((with_reducible refine And.intro ?_ ?_); first | (with_reducible rfl) | assumption | (simp only [go_sem]; done)))
  refine WK_for (fun n : Nat => ⟨[v, .any, .any, .s H.length 0 (jl l n).length (.u 0), .v (.int .i64 ((n : Int) + 1))] ++ junk 21, H ++ [⟨(jl l n).flatMap i64C, 2, .own 1⟩]⟩) (fun n => n ≤ l.length - 1) (fun n => l.length - n) 0 (Weak.slots ?_) ?_ fun n hn => ?_
  · simp [go_sem, jl]
  · simp
  rcases Int.lt_or_le ((n : Int) + 1) l.length with hc | hc
  · obtain ⟨i, off, c, b, rfl, hat⟩ := h.row (by omega)
    have hil := hat.lt
    have a0 := hat.elem (rowL .u16 12) 12 hz12 (show n < l.length by omega)
    have a1 := hat.elem (rowL .u16 12) 12 hz12 (show n + 1 < l.length by omega)
    have f0 := hat.fits (rowL .u16 12) 12 hz12 (show n < l.length by omega) (by omega)
    have f1 := hat.fits (rowL .u16 12) 12 hz12 (show n + 1 < l.length by omega) (by omega)
    rw [← pg_at] at a0 a1
    have t0 : ((n : Int) + 1 - 1).toNat = n := by omega
    have t1 : ((n : Int) + 1).toNat = n + 1 := by omega
    have hn1 : norefH H.length H := norefH_wf hw (Nat.le_refl _)
    have hn2 : norefs H.length ((jl l n).flatMap i64C) = true := flat_i64.norefs _ _
    have hl2 : ((jl l n).flatMap i64C).length = (jl l n).length := by rw [flat_i64.flen, Nat.mul_one]
    have hle := jl_len l n
    have hij : (i = H.length) = False := eq_false (by omega)
    have hd1 : (H.length + 1 = H.length) = False := eq_false (by omega)
    have e3 := jl_succ l n
    repeat (first | (simp only [go_sem, Int.reduceLT, Int.reduceLE, Int.reduceEq, Int.reduceToNat, hL, hc, (get_app hat.get), hat.live, t0, t1, a0, a1, hn1, hn2, hl2, hij, hd1, hx]) | ((with_reducible refine And.intro ?_ ?_); omega) | ((with_reducible refine isSK ?_); first | (refine call_ret (jump (pg_12 h12 _) (pg_12 h12 _)) (by simp only [go_sem, Int.reduceLT, Int.reduceLE, Int.reduceEq, Int.reduceToNat, hL, hc, (get_app hat.get), hat.live, t0, t1, a0, a1, hn1, hn2, hl2, hij, hd1, hx]) ?_)) | ((with_reducible refine isMC ?_); first | (refine mcall_ret (jump (pg_12 h12 _) (pg_12 h12 _)) (by simp only [go_sem, Int.reduceLT, Int.reduceLE, Int.reduceEq, Int.reduceToNat, hL, hc, (get_app hat.get), hat.live, t0, t1, a0, a1, hn1, hn2, hl2, hij, hd1, hx]) (by simp only [go_sem, Int.reduceLT, Int.reduceLE, Int.reduceEq, Int.reduceToNat, hL, hc, (get_app hat.get), hat.live, t0, t1, a0, a1, hn1, hn2, hl2, hij, hd1, hx]) ?_)) | ((with_reducible refine isWKr (id := 5) ?_); refine WK_drawUp 5 [[],[],[],[2],[1,2,3],[1,2,3,4],[],[],[6,7],[6,7,8],[1,2,3,4,5,6,7,8,9],[1,2,3,4,5,6,7,8,9,10],[0,1,2,3,4,5,6,7,8,9,10,11],[0,1,2,3,4,5,6,7,8,9,10,11,12]] 12 (by kernel_rfl) ?_; dsimp only [List.take, List.drop]) | ((with_reducible refine And.intro ?_ ?_); first | (with_reducible rfl) | assumption | (simp only [go_sem]; done)))
    refine EK_again (n + 1) ?_ (by omega) (by omega)
    rw [e3, flat_snoc]
    exact Weak.keepN rfl (by simp [go_sem] <;> omega) (by simp [hx]) (by simp [go_sem, hil, flat_i64.lts, i64C, jmp] <;> omega) (hw.app (by simp [go_sem, hil, flat_i64.lts, i64C, jmp] <;> omega))
  · have : n = l.length - 1 := by omega
    subst this
    repeat (first | (simp only [go_sem, Int.reduceLT, Int.reduceLE, Int.reduceEq, Int.reduceToNat, hL, Int.not_lt.2 hc]) | ((with_reducible refine And.intro ?_ ?_); omega) | ((with_reducible refine isWKr (id := 5) ?_); refine WK_drawUp 5 [[],[],[],[2],[1,2,3],[1,2,3,4],[],[],[6,7],[6,7,8],[1,2,3,4,5,6,7,8,9],[1,2,3,4,5,6,7,8,9,10],[0,1,2,3,4,5,6,7,8,9,10,11],[0,1,2,3,4,5,6,7,8,9,10,11,12]] 12 (by kernel_rfl) ?_; dsimp only [List.take, List.drop]) | ((with_reducible refine And.intro ?_ ?_); first | (with_reducible rfl) | assumption | (simp only [go_sem]; done)))
    refine ret_at hq _ (.inl rfl) (by simp) ?_
    simp [go_sem]
theorem l02Jumps {H : List Blk} {v : V} {l : List (Nat → Int)} (h : Rd H v (rowL .u16 12) l) (h12 : ∀ f ∈ l, F12 f) (hl : l.length ≤ 1000000) :
    Cal Tryz.prog 50 [v] H fun u H' => u = .s H.length 0 (jl l (l.length - 1)).length (.u 0) ∧ H' = H ++ [⟨(jl l (l.length - 1)).flatMap i64C, 2, .own 1⟩] := by
  have hsol := h.solid
  have hL := h.lenV (P := Tryz.prog) slTy25
  refine cal_fn 23 mixed Tryz.func50 Tryz.ntmps50 Tryz.results50 rfl rfl rfl fun hw cx hx hq => ?_
  repeat (first | (simp only [go_sem, Int.reduceLT, Int.reduceLE, Int.reduceEq, Int.reduceToNat, hsol]) | ((with_reducible refine And.intro ?_ ?_); omega) | ((with_reducible refine isWKr (id := 5) ?_); refine WK_drawUp 5 [[],[],[],[2],[1,2,3],[],[],[5,6],[1,2,3,4,5,6,7],[1,2,3,4,5,6,7,8],[0,1,2,3,4,5,6,7,8,9],[0,1,2,3,4,5,6,7,8,9,10]] 10 (by kernel_rfl) ?_; dsimp only [List.take, List.drop]) | ((with_reducible refine And.intro ?_ ?_); first | (with_reducible rfl) | assumption | (simp only [go_sem]; done)))
  refine WK_for (fun n : Nat => ⟨[v, .any, .any, .s H.length 0 (jl l n).length (.u 0), .v (.int .i64 ((n : Int) + 1))] ++ junk 19, H ++ [⟨(jl l n).flatMap i64C, 2, .own 1⟩]⟩) (fun n => n ≤ l.length - 1) (fun n => l.length - n) 0 (Weak.slots ?_) ?_ fun n hn => ?_
  · simp [go_sem, jl]
  · simp
  rcases Int.lt_or_le ((n : Int) + 1) l.length with hc | hc
  · obtain ⟨i, off, c, b, rfl, hat⟩ := h.row (by omega)
    have hil := hat.lt
    have a0 := hat.el hz12 (show n < l.length by omega)
    have a1 := hat.el hz12 (show n + 1 < l.length by omega)
    rw [← pg_at] at a0 a1
    have t0 : ((n : Int) + 1 - 1).toNat = n := by omega
    have t1 : ((n : Int) + 1).toNat = n + 1 := by omega
    have hn1 : norefH H.length H := norefH_wf hw (Nat.le_refl _)
    have hn2 : norefs H.length ((jl l n).flatMap i64C) = true := flat_i64.norefs _ _
    have hl2 : ((jl l n).flatMap i64C).length = (jl l n).length := by rw [flat_i64.flen, Nat.mul_one]
    have hle := jl_len l n
    have hij : (i = H.length) = False := eq_false (by omega)
    have hd1 : (H.length + 1 = H.length) = False := eq_false (by omega)
    have e3 := jl_succ l n
    repeat (first | (simp only [go_sem, Int.reduceLT, Int.reduceLE, Int.reduceEq, Int.reduceToNat, hL, hc, t0, t1, hn1, hn2, hl2, hij, hd1, hx]) | ((with_reducible refine And.intro ?_ ?_); omega) | ((with_reducible refine isSK ?_); first | (refine call_ret (l01Differ a0.app a1.app (pg_12 h12 _) (pg_12 h12 _)) (by simp only [go_sem, Int.reduceLT, Int.reduceLE, Int.reduceEq, Int.reduceToNat, hL, hc, t0, t1, hn1, hn2, hl2, hij, hd1, hx]) ?_)) | ((with_reducible refine isMC ?_); first | (refine mcall_ret (l01Differ a0.app a1.app (pg_12 h12 _) (pg_12 h12 _)) (by simp only [go_sem, Int.reduceLT, Int.reduceLE, Int.reduceEq, Int.reduceToNat, hL, hc, t0, t1, hn1, hn2, hl2, hij, hd1, hx]) (by simp only [go_sem, Int.reduceLT, Int.reduceLE, Int.reduceEq, Int.reduceToNat, hL, hc, t0, t1, hn1, hn2, hl2, hij, hd1, hx]) ?_)) | ((with_reducible refine isWKr (id := 5) ?_); refine WK_drawUp 5 [[],[],[],[2],[1,2,3],[],[],[5,6],[1,2,3,4,5,6,7],[1,2,3,4,5,6,7,8],[0,1,2,3,4,5,6,7,8,9],[0,1,2,3,4,5,6,7,8,9,10]] 10 (by kernel_rfl) ?_; dsimp only [List.take, List.drop]) | ((with_reducible refine And.intro ?_ ?_); first | (with_reducible rfl) | assumption | (simp only [go_sem]; done)))
    refine EK_again (n + 1) ?_ (by omega) (by omega)
    rw [e3, flat_snoc]
    exact Weak.keepN rfl (by simp [go_sem] <;> omega) (by simp [hx]) (by simp [go_sem, hil, flat_i64.lts, i64C, jmp] <;> omega) (hw.app (by simp [go_sem, hil, flat_i64.lts, i64C, jmp] <;> omega))
  · have : n = l.length - 1 := by omega
    subst this
    repeat (first | (simp only [go_sem, Int.reduceLT, Int.reduceLE, Int.reduceEq, Int.reduceToNat, hL, Int.not_lt.2 hc]) | ((with_reducible refine And.intro ?_ ?_); omega) | ((with_reducible refine isWKr (id := 5) ?_); refine WK_drawUp 5 [[],[],[],[2],[1,2,3],[],[],[5,6],[1,2,3,4,5,6,7],[1,2,3,4,5,6,7,8],[0,1,2,3,4,5,6,7,8,9],[0,1,2,3,4,5,6,7,8,9,10]] 10 (by kernel_rfl) ?_; dsimp only [List.take, List.drop]) | ((with_reducible refine And.intro ?_ ?_); first | (with_reducible rfl) | assumption | (simp only [go_sem]; done)))
    refine ret_at hq _ (.inl rfl) (by simp) ?_
    simp [go_sem]
end Go.Proofs.YtaekjojblkhfdaaGreat
namespace Go.Proofs.YtaekjojblkhfdaaGreat
open Go Go.Sx
def nth0 (l : List Int) (n : Nat) : Int := l[n]?.getD 0
theorem nth0_at {l : List Int} {n : Nat} (h : n < l.length) : nth0 l n = l[n] := by unfold nth0; rw [List.getElem?_eq_getElem h]; rfl
def mxT (l : List Int) : Nat → Int
  | 0 => nth0 l 0
  | n + 1 => max (mxT l n) (nth0 l (n + 1))
def bT (l : List Int) : Nat → Nat
  | 0 => 0
  | k + 1 => if nth0 l (bT l k) < nth0 l (k + 1) then k + 1 else bT l k
theorem bT_le (l : List Int) : ∀ k, bT l k ≤ k
  | 0 => Nat.le_refl _
  | k + 1 => by unfold bT; have := bT_le l k; split <;> omega
theorem bT_max (l : List Int) : ∀ k, nth0 l (bT l k) = mxT l k ∧ ∀ j, j < bT l k → nth0 l j < mxT l k
  | 0 => ⟨rfl, fun j hj => by simp [bT] at hj⟩
  | k + 1 => by
    obtain ⟨h1, h2⟩ := bT_max l k
    have h3 : ∀ j, j ≤ k → nth0 l j ≤ mxT l k := by
      intro j hj
      clear h1 h2
      induction k with
      | zero => have : j = 0 := by omega
                subst this; exact Int.le_refl _
      | succ k ih =>
        rw [mxT]
        by_cases e : j ≤ k
        · have := ih e; omega
        · have : j = k + 1 := by omega
          subst this; omega
    unfold bT
    split
    · rename_i h
      rw [mxT]
      refine ⟨by omega, fun j hj => ?_⟩
      have := h3 j (by omega)
      omega
    · rename_i h
      rw [mxT]
      refine ⟨by omega, fun j hj => ?_⟩
      have := h2 j hj
      omega
theorem bT_idx {l : List Int} (h : 0 < l.length) : idxL (fun x => decide (x = mxT l (l.length - 1))) l = bT l (l.length - 1) := by
  obtain ⟨h1, h2⟩ := bT_max l (l.length - 1)
  have hle := bT_le l (l.length - 1)
  have hb : bT l (l.length - 1) < l.length := by omega
  refine idxL_at hb ?_ fun j hj hj2 => ?_
  · rw [← nth0_at hb]; exact decide_eq_true h1
  · have := h2 j hj2
    rw [nth0_at hj] at this
    exact decide_eq_false (by omega)
def sndT (l : List Int) (b : Nat) : Nat → Int
  | 0 => 0
  | n + 1 => if n = b then sndT l b n else max (sndT l b n) (nth0 l n)
theorem sndT_range {l : List Int} (h : ∀ x ∈ l, 0 ≤ x ∧ x ≤ 144) (b : Nat) : ∀ n, 0 ≤ sndT l b n ∧ sndT l b n ≤ 144
  | 0 => by simp [sndT]
  | n + 1 => by
    have ih := sndT_range h b n
    unfold sndT
    split
    · exact ih
    · unfold nth0
      cases e : l[n]? with
      | none => simp; omega
      | some x => have := h x (List.mem_of_getElem? e); simp; omega
theorem nth0_range {l : List Int} (h : ∀ x ∈ l, 0 ≤ x ∧ x ≤ 144) (n : Nat) : 0 ≤ nth0 l n ∧ nth0 l n ≤ 144 := by
  unfold nth0
  cases e : l[n]? with
  | none => simp
  | some x => have := h x (List.mem_of_getElem? e); simp; omega
theorem l00Max {H : List Blk} {a b : Int} : Cal Tryz.prog 51 [.v (.int .i64 a), .v (.int .i64 b)] H fun u H' => u = .v (.int .i64 (max a b)) ∧ H' = H := by
  refine cal_fn 8 mixed Tryz.func51 Tryz.ntmps51 Tryz.results51 rfl rfl rfl fun hw cx hx hq => ?_
  by_cases e : b < a
  · repeat (first | (simp only [go_sem, Int.reduceLT, Int.reduceLE, Int.reduceEq, Int.reduceToNat, e]) | ((with_reducible refine And.intro ?_ ?_); omega) | ((with_reducible refine And.intro ?_ ?_); first | (with_reducible rfl) | assumption | (simp only [go_sem]; done)))
    refine ret_same hq _ (.inl rfl) ?_
    simp [go_sem]; omega
  · repeat (first | (simp only [go_sem, Int.reduceLT, Int.reduceLE, Int.reduceEq, Int.reduceToNat, e]) | ((with_reducible refine And.intro ?_ ?_); omega) | ((with_reducible refine And.intro ?_ ?_); first | (with_reducible rfl) | assumption | (simp only [go_sem]; done)))
    refine ret_same hq _ (.inl rfl) ?_
    simp [go_sem]; omega
theorem slicesMax {H : List Blk} {v : V} {l : List Int} (h : Rd H v i64C l) (hl : l.length ≤ 1000000) (h0 : 0 < l.length) :
    Cal Tryz.prog 73 [v] H fun u H' => u = .v (.int .i64 (mxT l (l.length - 1))) ∧ H' = H := by
  have hsol := h.solid
  have hL := h.lenV (P := Tryz.prog) slTy27
  obtain ⟨i, off, c, b, rfl, hat⟩ := h.row h0
  have hll := hat.len (by rw [flat_i64.flen]; omega)
  rw [flat_i64.flen] at hll
  have hz := hat.i64 h0
  rw [← nth0_at h0] at hz
  simp only [Nat.add_zero] at hz
  have e1 : ((l.length : Int) < 1) = False := eq_false (by omega)
  refine cal_fn 24 mixed Tryz.func73 Tryz.ntmps73 Tryz.results73 rfl rfl rfl fun hw cx hx hq => ?_
  repeat (first | (simp only [go_sem, Int.reduceLT, Int.reduceLE, Int.reduceEq, Int.reduceToNat, hsol, hL, e1, hat.get, hat.live, hz]) | ((with_reducible refine And.intro ?_ ?_); omega) | ((with_reducible refine And.intro ?_ ?_); first | (with_reducible rfl) | assumption | (simp only [go_sem]; done)))
  refine WK_for (fun n : Nat => ⟨[.s i off l.length c, .any, .any, .v (.int .i64 (mxT l n)), .v (.int .i64 ((n : Int) + 1))] ++ junk 20, H⟩) (fun n => n ≤ l.length - 1) (fun n => l.length - n) 0 (Weak.slots ?_) ?_ fun n hn => ?_
  · simp [go_sem, mxT]
  · simp
  rcases Int.lt_or_le ((n : Int) + 1) l.length with hc | hc
  · have hj : n + 1 < l.length := by omega
    have hz := hat.i64 hj
    rw [← nth0_at hj] at hz
    have t1 : ((n : Int) + 1).toNat = n + 1 := by omega
    repeat (first | (simp only [go_sem, Int.reduceLT, Int.reduceLE, Int.reduceEq, Int.reduceToNat, hL, hc, hat.get, hat.live, t1, hz, iteMax]) | ((with_reducible refine And.intro ?_ ?_); omega) | ((with_reducible refine And.intro ?_ ?_); first | (with_reducible rfl) | assumption | (simp only [go_sem]; done)))
    refine EK_again (n + 1) ?_ (by omega) (by omega)
    rw [mxT]
    exact Weak.slots (by simp [go_sem])
  · have : n = l.length - 1 := by omega
    subst this
    repeat (first | (simp only [go_sem, Int.reduceLT, Int.reduceLE, Int.reduceEq, Int.reduceToNat, hL, Int.not_lt.2 hc]) | ((with_reducible refine And.intro ?_ ?_); omega) | ((with_reducible refine And.intro ?_ ?_); first | (with_reducible rfl) | assumption | (simp only [go_sem]; done)))
    refine ret_same hq _ (.inl rfl) ?_
    simp [go_sem]
theorem slicesIndex {H : List Blk} {v : V} {l : List Int} {x : Int} (h : Rd H v i64C l) (hl : l.length ≤ 1000000) :
    Cal Tryz.prog 32 [v, .v (.int .i64 x)] H fun u H' => u = .v (.int .i64 (idxL (fun y => decide (y = x)) l)) ∧ H' = H := by
  have hsol := h.solid
  have hL := h.lenV (P := Tryz.prog) slTy27
  refine cal_fn 17 mixed Tryz.func32 Tryz.ntmps32 Tryz.results32 rfl rfl rfl fun hw cx hx hq => ?_
  repeat (first | (simp only [go_sem, Int.reduceLT, Int.reduceLE, Int.reduceEq, Int.reduceToNat, hsol, hL]) | ((with_reducible refine And.intro ?_ ?_); omega) | ((with_reducible refine And.intro ?_ ?_); first | (with_reducible rfl) | assumption | (simp only [go_sem]; done)))
  refine WK_for (fun n : Nat => ⟨[v, .v (.int .i64 x), .any, .any, .any, .any, .any, .v (.int .i64 l.length), .v (.int .i64 n)] ++ junk 10, H⟩) (fun n => n ≤ l.length ∧ ∀ j (hj : j < l.length), j < n → decide (l[j] = x) = false) (fun n => l.length - n) 0 (Weak.slots ?_) ?_ fun n hn => ?_
  · simp [go_sem]
  · simp
  rcases Int.lt_or_le (n : Int) l.length with hc | hc
  · have hj : n < l.length := by omega
    obtain ⟨i, off, c, b, rfl, hat⟩ := h.row (by omega)
    have hll := hat.len (by rw [flat_i64.flen]; omega)
    rw [flat_i64.flen] at hll
    have hz := hat.i64 hj
    by_cases e : l[n] = x
    · have e1 : (x = l[n]) = True := eq_true e.symm
      repeat (first | (simp only [go_sem, Int.reduceLT, Int.reduceLE, Int.reduceEq, Int.reduceToNat, hc, hat.get, hat.live, hz, e1]) | ((with_reducible refine And.intro ?_ ?_); omega) | ((with_reducible refine And.intro ?_ ?_); first | (with_reducible rfl) | assumption | (simp only [go_sem]; done)))
      refine ret_same hq _ (.inl rfl) ?_
      rw [idxL_at hj (decide_eq_true e) hn.2]
      simp [go_sem]
    · have e1 : (x = l[n]) = False := eq_false fun h => e h.symm
      repeat (first | (simp only [go_sem, Int.reduceLT, Int.reduceLE, Int.reduceEq, Int.reduceToNat, hc, hat.get, hat.live, hz, e1]) | ((with_reducible refine And.intro ?_ ?_); omega) | ((with_reducible refine And.intro ?_ ?_); first | (with_reducible rfl) | assumption | (simp only [go_sem]; done)))
      refine EK_again (n + 1) (Weak.slots (by simp [go_sem])) ⟨by omega, fun j hj2 hj3 => ?_⟩ (by omega)
      by_cases e2 : j = n
      · subst e2; first | exact e | exact decide_eq_false e
      · first | exact hn.2 j hj2 (by omega) | exact of_decide_eq_false (hn.2 j hj2 (by omega))
  · repeat (first | (simp only [go_sem, Int.reduceLT, Int.reduceLE, Int.reduceEq, Int.reduceToNat, Int.not_lt.2 hc]) | ((with_reducible refine And.intro ?_ ?_); omega) | ((with_reducible refine And.intro ?_ ?_); first | (with_reducible rfl) | assumption | (simp only [go_sem]; done)))
    refine ret_same hq _ (.inl rfl) ?_
    rw [idxL_none fun j hj => hn.2 j hj (by omega)]
    simp [go_sem]
def wgC (l : List (Nat → Int)) : Int := if okB l = true then (if l.length < 2 then 6 else 0) else 1
theorem wgC_ok {l : List (Nat → Int)} (h : wgC l = 0) : okB l = true ∧ 2 ≤ l.length := by
  unfold wgC at h
  split at h
  · split at h
    · cases h
    · rename_i e e2; exact ⟨e, by omega⟩
  · cases h
/-- Where the greatest jump is. -/
def gjP (l : List (Nat → Int)) : Nat := bT (jl l (l.length - 1)) (l.length - 1 - 1)
def gjM (l : List (Nat → Int)) : Int := mxT (jl l (l.length - 1)) (l.length - 1 - 1)
theorem greatestJump {H : List Blk} {v : V} {l : List (Nat → Int)} (h : Rd H v (rowL .u16 12) l) (hR : ∀ f ∈ l, R16 f) (hl : l.length ≤ 1000000) :
    Cal Tryz.prog 48 [v] H fun u H' => u = .t [.v (.int .i64 (if wgC l = 0 then (gjP l : Int) else 0)), .v (.int .i64 (if wgC l = 0 then gjM l else 0)), .v (.int .i64 (wgC l))] ∧ H' = H := by
  have hsol := h.solid
  have hL := h.lenV (P := Tryz.prog) slTy25
  refine cal_fn 22 mixed Tryz.func48 Tryz.ntmps48 Tryz.results48 rfl rfl rfl fun hw cx hx hq => ?_
  cases e1 : okB l
  · have hc : wgC l = 1 := by unfold wgC; rw [e1]; rfl
    repeat (first | (simp only [go_sem, Int.reduceLT, Int.reduceLE, Int.reduceEq, Int.reduceToNat, hsol, hL, e1]) | ((with_reducible refine And.intro ?_ ?_); omega) | ((with_reducible refine isSK ?_); first | (refine call_ret (validBook h (by omega)) (by simp only [go_sem, Int.reduceLT, Int.reduceLE, Int.reduceEq, Int.reduceToNat, hsol, hL, e1]) ?_)) | ((with_reducible refine And.intro ?_ ?_); first | (with_reducible rfl) | assumption | (simp only [go_sem]; done)))
    refine ret_same hq _ (.inl rfl) ?_
    simp [go_sem, hc]
  by_cases e2 : l.length < 2
  · have hc : wgC l = 6 := by unfold wgC; rw [if_pos e1, if_pos e2]
    have e3 : ((l.length : Int) < 2) = True := eq_true (by omega)
    repeat (first | (simp only [go_sem, Int.reduceLT, Int.reduceLE, Int.reduceEq, Int.reduceToNat, hsol, hL, e1, e3]) | ((with_reducible refine And.intro ?_ ?_); omega) | ((with_reducible refine isSK ?_); first | (refine call_ret (validBook h (by omega)) (by simp only [go_sem, Int.reduceLT, Int.reduceLE, Int.reduceEq, Int.reduceToNat, hsol, hL, e1, e3]) ?_)) | ((with_reducible refine And.intro ?_ ?_); first | (with_reducible rfl) | assumption | (simp only [go_sem]; done)))
    refine ret_same hq _ (.inl rfl) ?_
    simp [go_sem, hc]
  · have hc : wgC l = 0 := by unfold wgC; rw [if_pos e1, if_neg e2]
    have e3 : ((l.length : Int) < 2) = False := eq_false (by omega)
    have hlen := jl_len l (l.length - 1)
    have h12 := okB_12 e1 hR
    have hidx := bT_idx (l := jl l (l.length - 1)) (by omega)
    repeat (first | (simp only [go_sem, Int.reduceLT, Int.reduceLE, Int.reduceEq, Int.reduceToNat, hsol, hL, e1, e3]) | ((with_reducible refine And.intro ?_ ?_); omega) | ((with_reducible refine isSK ?_); first | (refine call_ret (validBook h (by omega)) (by simp only [go_sem, Int.reduceLT, Int.reduceLE, Int.reduceEq, Int.reduceToNat, hsol, hL, e1, e3]) ?_) | (refine call_ret (jumps h h12 hl) (by simp only [go_sem, Int.reduceLT, Int.reduceLE, Int.reduceEq, Int.reduceToNat, hsol, hL, e1, e3]) ?_) | (refine call_ret (slicesMax (l := jl l (l.length - 1)) (Rd.own0 rfl rfl rfl) (by omega) (by omega)) (by simp only [go_sem, Int.reduceLT, Int.reduceLE, Int.reduceEq, Int.reduceToNat, hsol, hL, e1, e3]) ?_) | (refine call_ret (slicesIndex (l := jl l (l.length - 1)) (Rd.own0 rfl rfl rfl) (by omega)) (by simp only [go_sem, Int.reduceLT, Int.reduceLE, Int.reduceEq, Int.reduceToNat, hsol, hL, e1, e3]) ?_)) | ((with_reducible refine And.intro ?_ ?_); first | (with_reducible rfl) | assumption | (simp only [go_sem]; done)))
    refine ret_cut hq hw _ (.inl rfl) ?_
    simp [go_sem, hc, gjP, gjM]
    rw [hidx, hlen]
    exact ⟨rfl, rfl⟩
def wgV (l : List (Nat → Int)) : Int := gjM l - sndT (jl l (l.length - 1)) (gjP l) (l.length - 1)
theorem implWidestGap {H : List Blk} {v : V} {l : List (Nat → Int)} (h : Rd H v (rowL .u16 12) l) (hR : ∀ f ∈ l, R16 f) (hl : l.length ≤ 1000000) :
    Cal Tryz.prog 16 [v] H fun u H' => u = .t [.v (.int .i64 (if wgC l = 0 then (gjP l : Int) else 0)), .v (.int .i64 (if wgC l = 0 then wgV l else 0)), .v (.int .i64 (wgC l))] ∧ H' = H := by
  have hsol := h.solid
  refine cal_fn 38 mixed Tryz.func16 Tryz.ntmps16 Tryz.results16 rfl rfl rfl fun hw cx hx hq => ?_
  by_cases e1 : wgC l = 0
  case neg =>
    repeat (first | (simp only [go_sem, Int.reduceLT, Int.reduceLE, Int.reduceEq, Int.reduceToNat, hsol, e1]) | ((with_reducible refine And.intro ?_ ?_); omega) | ((with_reducible refine isSK ?_); first | (refine call_ret (greatestJump h hR hl) (by simp only [go_sem, Int.reduceLT, Int.reduceLE, Int.reduceEq, Int.reduceToNat, hsol, e1]) ?_)) | ((with_reducible refine And.intro ?_ ?_); first | (with_reducible rfl) | assumption | (simp only [go_sem]; done)))
    refine ret_same hq _ (.inl rfl) ?_
    simp [go_sem, e1]
  have h12 := okB_12 (wgC_ok e1).1 hR
  have h2 := (wgC_ok e1).2
  have hlen := jl_len l (l.length - 1)
  have hjr := jl_range (l := l) (n := l.length - 1)
  have hM : 0 ≤ gjM l ∧ gjM l ≤ 144 := by
    have hb := bT_max (jl l (l.length - 1)) (l.length - 1 - 1)
    have := nth0_range hjr (bT (jl l (l.length - 1)) (l.length - 1 - 1))
    unfold gjM; omega
  repeat (first | (simp only [go_sem, Int.reduceLT, Int.reduceLE, Int.reduceEq, Int.reduceToNat, hsol, e1]) | ((with_reducible refine And.intro ?_ ?_); omega) | ((with_reducible refine isSK ?_); first | (refine call_ret (greatestJump h hR hl) (by simp only [go_sem, Int.reduceLT, Int.reduceLE, Int.reduceEq, Int.reduceToNat, hsol, e1]) ?_) | (refine call_ret (jumps h h12 hl) (by simp only [go_sem, Int.reduceLT, Int.reduceLE, Int.reduceEq, Int.reduceToNat, hsol, e1]) ?_)) | ((with_reducible refine And.intro ?_ ?_); first | (with_reducible rfl) | assumption | (simp only [go_sem]; done)))
  refine WK_for (fun n : Nat => ⟨[.any, .any, .any, .any, .any, .v (.int .i64 (gjP l)), .v (.int .i64 (gjM l)), .any, .v (.int .i64 (sndT (jl l (l.length - 1)) (gjP l) n)), .any, .any, .any, .any, .any, .any, .any, .any, .any, .any, .any, .any, .s H.length 0 (jl l (l.length - 1)).length (.u 0), .v (.int .i64 (jl l (l.length - 1)).length), .v (.int .i64 n)] ++ junk 15, H ++ [⟨(jl l (l.length - 1)).flatMap i64C, 2, .own 1⟩]⟩) (fun n => n ≤ l.length - 1) (fun n => l.length - n) 0 (Weak.slots ?_) ?_ fun n hn => ?_
  · simp [go_sem, sndT, e1]
  · simp
  have hS := sndT_range hjr (gjP l) n
  rcases Int.lt_or_le (n : Int) (jl l (l.length - 1)).length with hc | hc
  · have hj : n < (jl l (l.length - 1)).length := by omega
    have hl2 : ((jl l (l.length - 1)).flatMap i64C).length = (jl l (l.length - 1)).length := by rw [flat_i64.flen, Nat.mul_one]
    have hcel := (At.mk0 (H := H) (L := []) (cs := (jl l (l.length - 1)).flatMap i64C) (t := 2) (k := .own 1) rfl).i64 hj
    simp only [Nat.zero_add] at hcel
    rw [← nth0_at hj] at hcel
    by_cases e2 : n = gjP l
    · have e3 : sndT (jl l (l.length - 1)) (gjP l) (n + 1) = sndT (jl l (l.length - 1)) (gjP l) n := by rw [sndT, if_pos e2]
      have e4 : ((n : Int) = (gjP l : Int)) = True := eq_true (by omega)
      repeat (first | (simp only [go_sem, Int.reduceLT, Int.reduceLE, Int.reduceEq, Int.reduceToNat, hc, hcel, hl2, e4]) | ((with_reducible refine And.intro ?_ ?_); omega) | ((with_reducible refine And.intro ?_ ?_); first | (with_reducible rfl) | assumption | (simp only [go_sem]; done)))
      refine EK_again (n + 1) ?_ (by omega) (by omega)
      rw [e3]
      exact Weak.slots (by simp [go_sem])
    · have e3 : sndT (jl l (l.length - 1)) (gjP l) (n + 1) = max (sndT (jl l (l.length - 1)) (gjP l) n) (nth0 (jl l (l.length - 1)) n) := by rw [sndT, if_neg e2]
      have e4 : ((n : Int) = (gjP l : Int)) = False := eq_false (by omega)
      repeat (first | (simp only [go_sem, Int.reduceLT, Int.reduceLE, Int.reduceEq, Int.reduceToNat, hc, hcel, hl2, e4, iteMax]) | ((with_reducible refine And.intro ?_ ?_); omega) | ((with_reducible refine And.intro ?_ ?_); first | (with_reducible rfl) | assumption | (simp only [go_sem]; done)))
      refine EK_again (n + 1) ?_ (by omega) (by omega)
      rw [e3]
      exact Weak.slots (by simp [go_sem])
  · have : n = l.length - 1 := by omega
    subst this
    repeat (first | (simp only [go_sem, Int.reduceLT, Int.reduceLE, Int.reduceEq, Int.reduceToNat, Int.not_lt.2 hc]) | ((with_reducible refine And.intro ?_ ?_); omega) | ((with_reducible refine And.intro ?_ ?_); first | (with_reducible rfl) | assumption | (simp only [go_sem]; done)))
    refine ret_cut hq hw _ (.inl rfl) ?_
    simp [go_sem, e1, wgV]
theorem specWidestGap {H : List Blk} {v : V} {l : List (Nat → Int)} (h : Rd H v (rowL .u16 12) l) (hR : ∀ f ∈ l, R16 f) (hl : l.length ≤ 1000000) :
    Cal Tryz.prog 17 [v] H fun u H' => u = .t [.v (.int .i64 (if wgC l = 0 then (gjP l : Int) else 0)), .v (.int .i64 (if wgC l = 0 then wgV l else 0)), .v (.int .i64 (wgC l))] ∧ H' = H := by
  have hsol := h.solid
  have hL := h.lenV (P := Tryz.prog) slTy25
  refine cal_fn 55 mixed Tryz.func17 Tryz.ntmps17 Tryz.results17 rfl rfl rfl fun hw cx hx hq => ?_
  cases e1 : okB l
  · have hc : wgC l = 1 := by unfold wgC; rw [e1]; rfl
    repeat (first | (simp only [go_sem, Int.reduceLT, Int.reduceLE, Int.reduceEq, Int.reduceToNat, hsol, hL, e1]) | ((with_reducible refine And.intro ?_ ?_); omega) | ((with_reducible refine isSK ?_); first | (refine call_ret (l02Ok h (by omega)) (by simp only [go_sem, Int.reduceLT, Int.reduceLE, Int.reduceEq, Int.reduceToNat, hsol, hL, e1]) ?_)) | ((with_reducible refine isMC ?_); first | (refine mcall_ret (l02Ok h (by omega)) (by simp only [go_sem, Int.reduceLT, Int.reduceLE, Int.reduceEq, Int.reduceToNat, hsol, hL, e1]) (by simp only [go_sem, Int.reduceLT, Int.reduceLE, Int.reduceEq, Int.reduceToNat, hsol, hL, e1]) ?_)) | ((with_reducible refine isWKr (id := 10) ?_); refine WK_drawAt 10 [[],[],[0,1],[0,1,2],[],[],[4,5],[4,5,6],[0,1,2,3,4,5,6,7]] (by kernel_rfl) ?_) | ((with_reducible refine isWKr (id := 18) ?_); refine WK_drawAt 18 [[],[],[],[1,2],[1,2,3],[],[1,2,3,4,5],[0],[0,1,2,3,4,5,6,7],[0,1,2,3,4,5,6,7,8]] (by kernel_rfl) ?_) | ((with_reducible refine And.intro ?_ ?_); first | (with_reducible rfl) | assumption | (simp only [go_sem]; done)))
    refine ret_same hq _ (.inl rfl) ?_
    simp [go_sem, hc]
  by_cases e2 : l.length < 2
  · have hc : wgC l = 6 := by unfold wgC; rw [if_pos e1, if_pos e2]
    have e3 : ((l.length : Int) < 2) = True := eq_true (by omega)
    repeat (first | (simp only [go_sem, Int.reduceLT, Int.reduceLE, Int.reduceEq, Int.reduceToNat, hsol, hL, e1, e3]) | ((with_reducible refine And.intro ?_ ?_); omega) | ((with_reducible refine isSK ?_); first | (refine call_ret (l02Ok h (by omega)) (by simp only [go_sem, Int.reduceLT, Int.reduceLE, Int.reduceEq, Int.reduceToNat, hsol, hL, e1, e3]) ?_)) | ((with_reducible refine isMC ?_); first | (refine mcall_ret (l02Ok h (by omega)) (by simp only [go_sem, Int.reduceLT, Int.reduceLE, Int.reduceEq, Int.reduceToNat, hsol, hL, e1, e3]) (by simp only [go_sem, Int.reduceLT, Int.reduceLE, Int.reduceEq, Int.reduceToNat, hsol, hL, e1, e3]) ?_)) | ((with_reducible refine isWKr (id := 10) ?_); refine WK_drawAt 10 [[],[],[0,1],[0,1,2],[],[],[4,5],[4,5,6],[0,1,2,3,4,5,6,7]] (by kernel_rfl) ?_) | ((with_reducible refine isWKr (id := 18) ?_); refine WK_drawAt 18 [[],[],[],[1,2],[1,2,3],[],[1,2,3,4,5],[0],[0,1,2,3,4,5,6,7],[0,1,2,3,4,5,6,7,8]] (by kernel_rfl) ?_) | ((with_reducible refine And.intro ?_ ?_); first | (with_reducible rfl) | assumption | (simp only [go_sem]; done)))
    refine ret_same hq _ (.inl rfl) ?_
    simp [go_sem, hc]
  have hcc : wgC l = 0 := by unfold wgC; rw [if_pos e1, if_neg e2]
  have e3 : ((l.length : Int) < 2) = False := eq_false (by omega)
  have hlen := jl_len l (l.length - 1)
  have h12 := okB_12 e1 hR
  have hjr := jl_range (l := l) (n := l.length - 1)
  have hl2 : ((jl l (l.length - 1)).flatMap i64C).length = (jl l (l.length - 1)).length := by rw [flat_i64.flen, Nat.mul_one]
  have hcel : ∀ j, j < (jl l (l.length - 1)).length → cel ((jl l (l.length - 1)).flatMap i64C) j = .v (.int .i64 (nth0 (jl l (l.length - 1)) j)) := fun j hj => by
    have hcel := (At.mk0 (H := H) (L := []) (cs := (jl l (l.length - 1)).flatMap i64C) (t := 2) (k := .own 1) rfl).i64 hj
    simp only [Nat.zero_add] at hcel
    rw [nth0_at hj]; exact hcel
  repeat (first | (simp only [go_sem, Int.reduceLT, Int.reduceLE, Int.reduceEq, Int.reduceToNat, hsol, hL, e1, e3]) | ((with_reducible refine And.intro ?_ ?_); omega) | ((with_reducible refine isSK ?_); first | (refine call_ret (l02Ok h (by omega)) (by simp only [go_sem, Int.reduceLT, Int.reduceLE, Int.reduceEq, Int.reduceToNat, hsol, hL, e1, e3]) ?_) | (refine call_ret (l02Jumps h h12 hl) (by simp only [go_sem, Int.reduceLT, Int.reduceLE, Int.reduceEq, Int.reduceToNat, hsol, hL, e1, e3]) ?_)) | ((with_reducible refine isMC ?_); first | (refine mcall_ret (l02Ok h (by omega)) (by simp only [go_sem, Int.reduceLT, Int.reduceLE, Int.reduceEq, Int.reduceToNat, hsol, hL, e1, e3]) (by simp only [go_sem, Int.reduceLT, Int.reduceLE, Int.reduceEq, Int.reduceToNat, hsol, hL, e1, e3]) ?_) | (refine mcall_ret (l02Jumps h h12 hl) (by simp only [go_sem, Int.reduceLT, Int.reduceLE, Int.reduceEq, Int.reduceToNat, hsol, hL, e1, e3]) (by simp only [go_sem, Int.reduceLT, Int.reduceLE, Int.reduceEq, Int.reduceToNat, hsol, hL, e1, e3]) ?_)) | ((with_reducible refine isWKr (id := 10) ?_); refine WK_drawAt 10 [[],[],[0,1],[0,1,2],[],[],[4,5],[4,5,6],[0,1,2,3,4,5,6,7]] (by kernel_rfl) ?_) | ((with_reducible refine isWKr (id := 18) ?_); refine WK_drawAt 18 [[],[],[],[1,2],[1,2,3],[],[1,2,3,4,5],[0],[0,1,2,3,4,5,6,7],[0,1,2,3,4,5,6,7,8]] (by kernel_rfl) ?_) | ((with_reducible refine And.intro ?_ ?_); first | (with_reducible rfl) | assumption | (simp only [go_sem]; done)))
  refine WK_for (fun n : Nat => ⟨[.any, .any, .any, .any, .any, .s H.length 0 (jl l (l.length - 1)).length (.u 0), .v (.int .i64 (bT (jl l (l.length - 1)) n)), .v (.int .i64 ((n : Int) + 1))] ++ junk 48, H ++ [⟨(jl l (l.length - 1)).flatMap i64C, 2, .own 1⟩]⟩) (fun n => n ≤ l.length - 1 - 1) (fun n => l.length - n) 0 (Weak.slots ?_) ?_ fun n hn => ?_
  · simp [go_sem, bT]
  · simp
  have hble := bT_le (jl l (l.length - 1)) n
  rcases Int.lt_or_le ((n : Int) + 1) (jl l (l.length - 1)).length with hc | hc
  · have c1 := hcel (n + 1) (by omega)
    have c2 := hcel (bT (jl l (l.length - 1)) n) (by omega)
    have t1 : ((n : Int) + 1).toNat = n + 1 := by omega
    by_cases e4 : nth0 (jl l (l.length - 1)) (bT (jl l (l.length - 1)) n) < nth0 (jl l (l.length - 1)) (n + 1)
    · have e5 : bT (jl l (l.length - 1)) (n + 1) = n + 1 := by rw [bT, if_pos e4]
      repeat (first | (simp only [go_sem, Int.reduceLT, Int.reduceLE, Int.reduceEq, Int.reduceToNat, hc, hl2, t1, c1, c2, e4]) | ((with_reducible refine And.intro ?_ ?_); omega) | ((with_reducible refine isWKr (id := 10) ?_); refine WK_drawAt 10 [[],[],[0,1],[0,1,2],[],[],[4,5],[4,5,6],[0,1,2,3,4,5,6,7]] (by kernel_rfl) ?_) | ((with_reducible refine isWKr (id := 18) ?_); refine WK_drawAt 18 [[],[],[],[1,2],[1,2,3],[],[1,2,3,4,5],[0],[0,1,2,3,4,5,6,7],[0,1,2,3,4,5,6,7,8]] (by kernel_rfl) ?_) | ((with_reducible refine And.intro ?_ ?_); first | (with_reducible rfl) | assumption | (simp only [go_sem]; done)))
      refine EK_again (n + 1) ?_ (by omega) (by omega)
      rw [e5]
      exact Weak.slots (by simp [go_sem])
    · have e5 : bT (jl l (l.length - 1)) (n + 1) = bT (jl l (l.length - 1)) n := by rw [bT, if_neg e4]
      repeat (first | (simp only [go_sem, Int.reduceLT, Int.reduceLE, Int.reduceEq, Int.reduceToNat, hc, hl2, t1, c1, c2, e4]) | ((with_reducible refine And.intro ?_ ?_); omega) | ((with_reducible refine isWKr (id := 10) ?_); refine WK_drawAt 10 [[],[],[0,1],[0,1,2],[],[],[4,5],[4,5,6],[0,1,2,3,4,5,6,7]] (by kernel_rfl) ?_) | ((with_reducible refine isWKr (id := 18) ?_); refine WK_drawAt 18 [[],[],[],[1,2],[1,2,3],[],[1,2,3,4,5],[0],[0,1,2,3,4,5,6,7],[0,1,2,3,4,5,6,7,8]] (by kernel_rfl) ?_) | ((with_reducible refine And.intro ?_ ?_); first | (with_reducible rfl) | assumption | (simp only [go_sem]; done)))
      refine EK_again (n + 1) ?_ (by omega) (by omega)
      rw [e5]
      exact Weak.slots (by simp [go_sem])
  have : n = l.length - 1 - 1 := by omega
  subst this
  repeat (first | (simp only [go_sem, Int.reduceLT, Int.reduceLE, Int.reduceEq, Int.reduceToNat, Int.not_lt.2 hc]) | ((with_reducible refine And.intro ?_ ?_); omega) | ((with_reducible refine isWKr (id := 10) ?_); refine WK_drawAt 10 [[],[],[0,1],[0,1,2],[],[],[4,5],[4,5,6],[0,1,2,3,4,5,6,7]] (by kernel_rfl) ?_) | ((with_reducible refine isWKr (id := 18) ?_); refine WK_drawAt 18 [[],[],[],[1,2],[1,2,3],[],[1,2,3,4,5],[0],[0,1,2,3,4,5,6,7],[0,1,2,3,4,5,6,7,8]] (by kernel_rfl) ?_) | ((with_reducible refine And.intro ?_ ?_); first | (with_reducible rfl) | assumption | (simp only [go_sem]; done)))
  refine WK_for (fun n : Nat => ⟨[.any, .any, .any, .any, .any, .s H.length 0 (jl l (l.length - 1)).length (.u 0), .v (.int .i64 (gjP l)), .any, .v (.int .i64 (sndT (jl l (l.length - 1)) (gjP l) n)), .v (.int .i64 n)] ++ junk 46, H ++ [⟨(jl l (l.length - 1)).flatMap i64C, 2, .own 1⟩]⟩) (fun n => n ≤ l.length - 1) (fun n => l.length - n) 0 (Weak.slots ?_) ?_ fun n hn => ?_
  · simp [go_sem, sndT, gjP]
  · simp
  have hS := sndT_range hjr (gjP l) n
  rcases Int.lt_or_le (n : Int) (jl l (l.length - 1)).length with hc | hc
  · have hj : n < (jl l (l.length - 1)).length := by omega
    have c1 := hcel n hj
    by_cases e2 : n = gjP l
    · have e3 : sndT (jl l (l.length - 1)) (gjP l) (n + 1) = sndT (jl l (l.length - 1)) (gjP l) n := by rw [sndT, if_pos e2]
      have e4 : ((n : Int) = (gjP l : Int)) = True := eq_true (by omega)
      repeat (first | (simp only [go_sem, Int.reduceLT, Int.reduceLE, Int.reduceEq, Int.reduceToNat, hc, c1, hl2, e4]) | ((with_reducible refine And.intro ?_ ?_); omega) | ((with_reducible refine isSK ?_); first | (refine call_ret (l00Max) (by simp only [go_sem, Int.reduceLT, Int.reduceLE, Int.reduceEq, Int.reduceToNat, hc, c1, hl2, e4]) ?_)) | ((with_reducible refine isMC ?_); first | (refine mcall_ret (l00Max) (by simp only [go_sem, Int.reduceLT, Int.reduceLE, Int.reduceEq, Int.reduceToNat, hc, c1, hl2, e4]) (by simp only [go_sem, Int.reduceLT, Int.reduceLE, Int.reduceEq, Int.reduceToNat, hc, c1, hl2, e4]) ?_)) | ((with_reducible refine isWKr (id := 10) ?_); refine WK_drawAt 10 [[],[],[0,1],[0,1,2],[],[],[4,5],[4,5,6],[0,1,2,3,4,5,6,7]] (by kernel_rfl) ?_) | ((with_reducible refine isWKr (id := 18) ?_); refine WK_drawAt 18 [[],[],[],[1,2],[1,2,3],[],[1,2,3,4,5],[0],[0,1,2,3,4,5,6,7],[0,1,2,3,4,5,6,7,8]] (by kernel_rfl) ?_) | ((with_reducible refine And.intro ?_ ?_); first | (with_reducible rfl) | assumption | (simp only [go_sem]; done)))
      refine EK_again (n + 1) ?_ (by omega) (by omega)
      rw [e3]
      exact Weak.slots (by simp [go_sem])
    · have e3 : sndT (jl l (l.length - 1)) (gjP l) (n + 1) = max (sndT (jl l (l.length - 1)) (gjP l) n) (nth0 (jl l (l.length - 1)) n) := by rw [sndT, if_neg e2]
      have e4 : ((n : Int) = (gjP l : Int)) = False := eq_false (by omega)
      repeat (first | (simp only [go_sem, Int.reduceLT, Int.reduceLE, Int.reduceEq, Int.reduceToNat, hc, c1, hl2, e4]) | ((with_reducible refine And.intro ?_ ?_); omega) | ((with_reducible refine isSK ?_); first | (refine call_ret (l00Max) (by simp only [go_sem, Int.reduceLT, Int.reduceLE, Int.reduceEq, Int.reduceToNat, hc, c1, hl2, e4]) ?_)) | ((with_reducible refine isMC ?_); first | (refine mcall_ret (l00Max) (by simp only [go_sem, Int.reduceLT, Int.reduceLE, Int.reduceEq, Int.reduceToNat, hc, c1, hl2, e4]) (by simp only [go_sem, Int.reduceLT, Int.reduceLE, Int.reduceEq, Int.reduceToNat, hc, c1, hl2, e4]) ?_)) | ((with_reducible refine isWKr (id := 10) ?_); refine WK_drawAt 10 [[],[],[0,1],[0,1,2],[],[],[4,5],[4,5,6],[0,1,2,3,4,5,6,7]] (by kernel_rfl) ?_) | ((with_reducible refine isWKr (id := 18) ?_); refine WK_drawAt 18 [[],[],[],[1,2],[1,2,3],[],[1,2,3,4,5],[0],[0,1,2,3,4,5,6,7],[0,1,2,3,4,5,6,7,8]] (by kernel_rfl) ?_) | ((with_reducible refine And.intro ?_ ?_); first | (with_reducible rfl) | assumption | (simp only [go_sem]; done)))
      refine EK_again (n + 1) ?_ (by omega) (by omega)
      rw [e3]
      exact Weak.slots (by simp [go_sem])
  · have hgj : gjP l < (jl l (l.length - 1)).length := by unfold gjP; have := bT_le (jl l (l.length - 1)) (l.length - 1 - 1); omega
    have c1 := hcel (gjP l) hgj
    have hM : nth0 (jl l (l.length - 1)) (gjP l) = gjM l := (bT_max (jl l (l.length - 1)) (l.length - 1 - 1)).1
    have hMr := nth0_range hjr (gjP l)
    rw [hM] at c1 hMr
    have : n = l.length - 1 := by omega
    subst this
    repeat (first | (simp only [go_sem, Int.reduceLT, Int.reduceLE, Int.reduceEq, Int.reduceToNat, Int.not_lt.2 hc, c1, hl2]) | ((with_reducible refine And.intro ?_ ?_); omega) | ((with_reducible refine isWKr (id := 10) ?_); refine WK_drawAt 10 [[],[],[0,1],[0,1,2],[],[],[4,5],[4,5,6],[0,1,2,3,4,5,6,7]] (by kernel_rfl) ?_) | ((with_reducible refine isWKr (id := 18) ?_); refine WK_drawAt 18 [[],[],[],[1,2],[1,2,3],[],[1,2,3,4,5],[0],[0,1,2,3,4,5,6,7],[0,1,2,3,4,5,6,7,8]] (by kernel_rfl) ?_) | ((with_reducible refine And.intro ?_ ?_); first | (with_reducible rfl) | assumption | (simp only [go_sem]; done)))
    refine ret_cut hq hw _ (.inl rfl) ?_
    simp [go_sem, hcc, wgV]
end Go.Proofs.YtaekjojblkhfdaaGreat
