/- Contracts of functions of the translated program, by the walk. -/
import Derived.Test.YtpginknbmmdmoaaMx1
import Derived.Test.YtpginknbmmdmoaaR1f
import Derived.Test.YtpginknbmmdmoaaLD
set_option linter.unusedVariables false
set_option linter.unusedSimpArgs false
set_option maxRecDepth 8000
set_option maxHeartbeats 4000000
namespace Go.Proofs.Ytpginknbmmdmoaa
open Go Go.Sx
def in01 (x : Int) : Bool := decide (0 ≤ x) && decide (x ≤ 1)
def mixC (l : List (Nat → Int)) (s : List Int) : Int := if okB l = true then (if s.length = l.length ∧ s.all in01 = true then 0 else 2) else 1
theorem mix_ok {l : List (Nat → Int)} {s : List Int} (h : mixC l s = 0) : okB l = true ∧ s.length = l.length ∧ ∀ x ∈ s, x = 0 ∨ x = 1 := by
  unfold mixC at h
  split at h
  · rename_i e; split at h
    · rename_i e2
      refine ⟨e, e2.1, fun x hx => ?_⟩
      have := List.all_eq_true.1 e2.2 x hx
      unfold in01 at this
      simp at this; omega
    · cases h
  · cases h
theorem not_any_in (l : List Int) : (l.any fun x => !in01 x) = !l.all in01 := by induction l with | nil => rfl | cons a l ih => rw [List.any_cons, List.all_cons, ih, Bool.not_and]
theorem mixedOf1 {H : List Blk} {x : Int} : Cal Try.prog 106 [.v (.int .i64 x)] H fun u H' => u = .v (.bool (!in01 x)) ∧ H' = H := by
  refine cal_fn 5 mixed Try.func106 Try.ntmps106 Try.results106 rfl rfl rfl fun hw cx hx hq => ?_
  repeat (first | (simp only [go_sem, Int.reduceLT, Int.reduceLE, Int.reduceEq, Int.reduceToNat]) | ((with_reducible refine And.intro ?_ ?_); omega) | ((with_reducible refine isSK ?_); first | (refine call_ret (inRange) (by simp only [go_sem, Int.reduceLT, Int.reduceLE, Int.reduceEq, Int.reduceToNat]) ?_)) | ((with_reducible refine isMC ?_); first | (refine mcall_ret (inRange) (by simp only [go_sem, Int.reduceLT, Int.reduceLE, Int.reduceEq, Int.reduceToNat]) (by simp only [go_sem, Int.reduceLT, Int.reduceLE, Int.reduceEq, Int.reduceToNat]) ?_)) | ((with_reducible refine And.intro ?_ ?_); first | (with_reducible rfl) | assumption | (simp only [go_sem]; done)))
  refine ret_same hq _ (.inl rfl) ?_
  simp [go_sem, in01]
theorem implMixedOf_ok {H : List Blk} {v w : V} {l : List (Nat → Int)} {s : List Int} (h : Rd H v (rowL .u16 12) l) (h2 : Rd H w i64C s) (hl : l.length ≤ 1000000) (hs : s.length ≤ 1000000) (hc : mixC l s = 0) :
    Cal Try.prog 44 [v, w] H fun u H' => u = .t [hdW (H.length + 1) .w (sdA l s 0), hdW (H.length + 2) .w (sdA l s 1), .v (.int .i64 0)] ∧
      H' = H ++ [⟨[hdW (H.length + 1) .w (sdA l s 0), hdW (H.length + 2) .w (sdA l s 1)], 162, .fix⟩, rwB (sdA l s 0), rwB (sdA l s 1)] := by
  have hsol := h.solid
  have hsol2 := h2.solid
  have hL := h.lenV (P := Try.prog) slTy53
  have hL2 := h2.lenV (P := Try.prog) slTy63
  obtain ⟨e1, e2, h01⟩ := mix_ok hc
  have h40 := (okB_iff.1 e1).1
  have e2' : ((s.length : Int) = (l.length : Int)) = True := eq_true (by omega)
  have e3 : s.all in01 = true := List.all_eq_true.2 fun x hx => by rcases h01 x hx with rfl | rfl <;> rfl
  have sA : ∀ c, (hdW (H.length + 1) c (sdA l s 0)).solid = true := fun c => hdW_solid _ _ _
  have sB : ∀ c, (hdW (H.length + 2) c (sdA l s 1)).solid = true := fun c => hdW_solid _ _ _
  refine cal_fn 29 mixed Try.func44 Try.ntmps44 Try.results44 rfl rfl rfl fun hw cx hx hq => ?_
  repeat (first | (simp only [go_sem, Int.reduceLT, Int.reduceLE, Int.reduceEq, Int.reduceToNat, hsol, hsol2, hL, hL2, e1, e2, e2', not_any_in, e3, sA, sB]) | ((with_reducible refine And.intro ?_ ?_); omega) | ((with_reducible refine isSK ?_); first | (refine call_ret (validBook h (by omega)) (by simp only [go_sem, Int.reduceLT, Int.reduceLE, Int.reduceEq, Int.reduceToNat, hsol, hsol2, hL, hL2, e1, e2, e2', not_any_in, e3, sA, sB]) ?_) | (refine call_ret (containsFuncI (p := fun x => !in01 x) h2 (by omega) fun j hj L => mixedOf1) (by simp only [go_sem, Int.reduceLT, Int.reduceLE, Int.reduceEq, Int.reduceToNat, hsol, hsol2, hL, hL2, e1, e2, e2', not_any_in, e3, sA, sB]) ?_) | (refine call_ret (mixedW h h2 h40 e2 h01) (by simp only [go_sem, Int.reduceLT, Int.reduceLE, Int.reduceEq, Int.reduceToNat, hsol, hsol2, hL, hL2, e1, e2, e2', not_any_in, e3, sA, sB]) ?_)) | ((with_reducible refine isMC ?_); first | (refine mcall_ret (validBook h (by omega)) (by simp only [go_sem, Int.reduceLT, Int.reduceLE, Int.reduceEq, Int.reduceToNat, hsol, hsol2, hL, hL2, e1, e2, e2', not_any_in, e3, sA, sB]) (by simp only [go_sem, Int.reduceLT, Int.reduceLE, Int.reduceEq, Int.reduceToNat, hsol, hsol2, hL, hL2, e1, e2, e2', not_any_in, e3, sA, sB]) ?_) | (refine mcall_ret (containsFuncI (p := fun x => !in01 x) h2 (by omega) fun j hj L => mixedOf1) (by simp only [go_sem, Int.reduceLT, Int.reduceLE, Int.reduceEq, Int.reduceToNat, hsol, hsol2, hL, hL2, e1, e2, e2', not_any_in, e3, sA, sB]) (by simp only [go_sem, Int.reduceLT, Int.reduceLE, Int.reduceEq, Int.reduceToNat, hsol, hsol2, hL, hL2, e1, e2, e2', not_any_in, e3, sA, sB]) ?_) | (refine mcall_ret (mixedW h h2 h40 e2 h01) (by simp only [go_sem, Int.reduceLT, Int.reduceLE, Int.reduceEq, Int.reduceToNat, hsol, hsol2, hL, hL2, e1, e2, e2', not_any_in, e3, sA, sB]) (by simp only [go_sem, Int.reduceLT, Int.reduceLE, Int.reduceEq, Int.reduceToNat, hsol, hsol2, hL, hL2, e1, e2, e2', not_any_in, e3, sA, sB]) ?_)) | ((with_reducible refine And.intro ?_ ?_); first | (with_reducible rfl) | assumption | (simp only [go_sem]; done)))
  refine ret_at hq _ (.inl rfl) (by simp) ?_
  simp [go_sem, sA, sB]
theorem specMixedOf_ok {H : List Blk} {v w : V} {l : List (Nat → Int)} {s : List Int} (h : Rd H v (rowL .u16 12) l) (h2 : Rd H w i64C s) (hl : l.length ≤ 1000000) (hs : s.length ≤ 1000000) (hc : mixC l s = 0) :
    Cal Try.prog 42 [v, w] H fun u H' => u = .t [.s H.length 0 (sdA l s 0).length (.u 0), .s (H.length + 1) 0 (sdA l s 1).length (.u 0), .v (.int .i64 0)] ∧
      H' = H ++ [⟨(sdA l s 0).flatMap (rowL .u16 12), 24, .own 12⟩, ⟨(sdA l s 1).flatMap (rowL .u16 12), 24, .own 12⟩] := by
  have hsol := h.solid
  have hsol2 := h2.solid
  have hL := h.lenV (P := Try.prog) slTy53
  have hL2 := h2.lenV (P := Try.prog) slTy63
  obtain ⟨e1, e2, h01⟩ := mix_ok hc
  have e3 : s.all in01 = true := List.all_eq_true.2 fun x hx => by rcases h01 x hx with rfl | rfl <;> rfl
  have e2' : decide ((s.length : Int) = (l.length : Int)) = true := decide_eq_true (by omega)
  have e5 : ∀ n, (decide ((s.length : Int) = (l.length : Int)) && (s.take n).all in01) = true := fun n => by
    rw [e2', Bool.true_and]
    exact List.all_eq_true.2 fun x hx => List.all_eq_true.1 e3 x (List.mem_of_mem_take hx)
  refine cal_fn 45 mixed Try.func42 Try.ntmps42 Try.results42 rfl rfl rfl fun hw cx hx hq => ?_
  repeat (first | (simp only [go_sem, Int.reduceLT, Int.reduceLE, Int.reduceEq, Int.reduceToNat, hsol, hsol2, hL, hL2, e1]) | ((with_reducible refine And.intro ?_ ?_); omega) | ((with_reducible refine isSK ?_); first | (refine call_ret (l02Ok h (by omega)) (by simp only [go_sem, Int.reduceLT, Int.reduceLE, Int.reduceEq, Int.reduceToNat, hsol, hsol2, hL, hL2, e1]) ?_)) | ((with_reducible refine isMC ?_); first | (refine mcall_ret (l02Ok h (by omega)) (by simp only [go_sem, Int.reduceLT, Int.reduceLE, Int.reduceEq, Int.reduceToNat, hsol, hsol2, hL, hL2, e1]) (by simp only [go_sem, Int.reduceLT, Int.reduceLE, Int.reduceEq, Int.reduceToNat, hsol, hsol2, hL, hL2, e1]) ?_)) | ((with_reducible refine And.intro ?_ ?_); first | (with_reducible rfl) | assumption | (simp only [go_sem]; done)))
  refine WK_for (fun n : Nat => ⟨[v, w, .any, .any, .any, .any, .any, .v (.bool (decide ((s.length : Int) = (l.length : Int)) && (s.take n).all in01)), .v (.int .i64 n)] ++ junk 38, H⟩) (fun n => n ≤ s.length) (fun n => s.length - n) 0 (Weak.slots ?_) ?_ fun n hn => ?_
  · simp [go_sem]
  · simp
  rcases Int.lt_or_le (n : Int) s.length with hc2 | hc2
  · have hj : n < s.length := by omega
    obtain ⟨i2, off2, c2, b2, rfl, hat2, hf2⟩ := h2.full (by omega)
    have hfl2 : (s.flatMap i64C).length = s.length := by rw [flat_i64.flen, Nat.mul_one]
    rw [hfl2] at hf2
    have an2 := hat2.i64 hj
    have e6 : (decide (0 ≤ s[n]) && decide (s[n] ≤ 1)) = true := List.all_eq_true.1 e3 _ (List.getElem_mem hj)
    rw [e5]
    repeat (first | (simp only [go_sem, Int.reduceLT, Int.reduceLE, Int.reduceEq, Int.reduceToNat, hL2, hc2, hat2.get, hat2.live, an2, e6]) | ((with_reducible refine And.intro ?_ ?_); omega) | ((with_reducible refine isSK ?_); first | (refine call_ret (l00In) (by simp only [go_sem, Int.reduceLT, Int.reduceLE, Int.reduceEq, Int.reduceToNat, hL2, hc2, hat2.get, hat2.live, an2, e6]) ?_)) | ((with_reducible refine isMC ?_); first | (refine mcall_ret (l00In) (by simp only [go_sem, Int.reduceLT, Int.reduceLE, Int.reduceEq, Int.reduceToNat, hL2, hc2, hat2.get, hat2.live, an2, e6]) (by simp only [go_sem, Int.reduceLT, Int.reduceLE, Int.reduceEq, Int.reduceToNat, hL2, hc2, hat2.get, hat2.live, an2, e6]) ?_)) | ((with_reducible refine And.intro ?_ ?_); first | (with_reducible rfl) | assumption | (simp only [go_sem]; done)))
    refine EK_again (n + 1) ?_ (by omega) (by omega)
    rw [e5]
    exact Weak.slots (by simp [go_sem])
  · have : n = s.length := by omega
    subst this
    rw [e5]
    repeat (first | (simp only [go_sem, Int.reduceLT, Int.reduceLE, Int.reduceEq, Int.reduceToNat, hsol, hsol2, hL2, Int.not_lt.2 hc2]) | ((with_reducible refine And.intro ?_ ?_); omega) | ((with_reducible refine isSK ?_); first | (refine call_ret (l04Split h h2 hl e2 h01) (by simp only [go_sem, Int.reduceLT, Int.reduceLE, Int.reduceEq, Int.reduceToNat, hsol, hsol2, hL2, Int.not_lt.2 hc2]) ?_)) | ((with_reducible refine isMC ?_); first | (refine mcall_ret (l04Split h h2 hl e2 h01) (by simp only [go_sem, Int.reduceLT, Int.reduceLE, Int.reduceEq, Int.reduceToNat, hsol, hsol2, hL2, Int.not_lt.2 hc2]) (by simp only [go_sem, Int.reduceLT, Int.reduceLE, Int.reduceEq, Int.reduceToNat, hsol, hsol2, hL2, Int.not_lt.2 hc2]) ?_)) | ((with_reducible refine And.intro ?_ ?_); first | (with_reducible rfl) | assumption | (simp only [go_sem]; done)))
    refine ret_at hq _ (.inl rfl) (by simp) ?_
    simp [go_sem]
theorem implMixedOf11 {H : List Blk} {v w : V} {l : List (Nat → Int)} {s : List Int} (h : Rd H v (rowL .u16 12) l) (h2 : Rd H w i64C s) (hl : l.length ≤ 1000000) (hs : s.length ≤ 1000000) (hc : mixC l s = 0) (hA : sdA l s 0 = []) (hB : sdA l s 1 = []) :
    Cal Try.prog 44 [v, w] H fun u H' => u = .t [.v (.slice none 0 0), .v (.slice none 0 0), .v (.int .i64 0)] ∧
      H' = H ++ [⟨[.v (.slice none 0 0), .v (.slice none 0 0)], 162, .fix⟩, deadB, deadB] := by
  have := implMixedOf_ok h h2 hl hs hc
  simp only [hA, hdW_nil, rwB_nil, hB, hdW_nil, rwB_nil] at this
  exact this
end Go.Proofs.Ytpginknbmmdmoaa

