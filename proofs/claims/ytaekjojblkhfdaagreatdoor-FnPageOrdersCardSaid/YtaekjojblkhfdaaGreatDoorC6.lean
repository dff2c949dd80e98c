/- Contracts of functions of the translated program, by the walk. -/
import Derived.Test.YtaekjojblkhfdaaGreatDoorT1
import Derived.Test.YtaekjojblkhfdaaGreatDoorLD
set_option linter.unusedVariables false
set_option linter.unusedSimpArgs false
set_option maxRecDepth 8000
set_option maxHeartbeats 16000000
namespace Go.Proofs.YtaekjojblkhfdaaGreatDoor
open Go Go.Sx
def okF (f : Nat → Int) : Bool := allN 12 fun j => decide (f j ≤ 4095)
theorem okF_iff (f : Nat → Int) : okF f = true ↔ ∀ j, j < 12 → f j ≤ 4095 := by simp [okF, allN_iff]
theorem l01Ok {H : List Blk} {i off : Nat} {f : Nat → Int} {b : Blk} (h : At H i off (rowL .u16 12 (f)) b) : Cal Tryz.prog 86 [.p i off] H fun v H' => v = .v (.bool (okF f)) ∧ H' = H := by
  refine cal_fn 13 mixed Tryz.func86 Tryz.ntmps86 Tryz.results86 rfl rfl rfl fun hw cx hx hq => ?_
  simp only [go_sem]
  refine WK_for (fun n : Nat => ⟨[.p i off, .any, .v (.bool false), .v (.int .i64 n), .any, .any, .any, .any, .any, .any, .any, .any, .any, .any], H⟩) (fun n => n ≤ 12 ∧ ∀ j, j < n → f j ≤ 4095) (fun n => 12 - n) 0 (Weak.slots ?_) ?_ fun n hn => ?_
  · simp [go_sem]
  · simp
  rcases Int.lt_or_le (n : Int) 12 with hc | hc
  · simp only [go_sem, h.get, h.live, h.cel (show n < 12 by omega), hc]
    have := h.len (by simp [go_sem])
    simp only [go_sem] at this
    repeat (refine And.intro (by omega) ?_)
    refine ⟨fun h2 => ?_, fun h2 => ?_⟩
    · refine ret_same hq _ (.inl rfl) ?_
      simp only [go_sem]
      have : okF f = false := by
        rw [Bool.eq_false_iff]; intro h3; have := (okF_iff f).1 h3 n (by omega); omega
      rw [this]
    · repeat (refine And.intro (by omega) ?_)
      refine EK_again (n + 1) (Weak.slots ?_) ⟨by omega, fun j hj => ?_⟩ (by omega)
      · simp [go_sem]
      · by_cases e : j = n
        · subst e; omega
        · exact hn.2 j (by omega)
  · simp only [go_sem, Int.not_lt.2 hc]
    refine ret_same hq _ (.inl rfl) ?_
    simp only [go_sem]
    have : n = 12 := by omega
    subst this
    rw [(okF_iff f).2 hn.2]

end Go.Proofs.YtaekjojblkhfdaaGreatDoor
namespace Go.Proofs.YtaekjojblkhfdaaGreatDoor
open Go Go.Sx
theorem indexFunc16 {H : List Blk} {i off m : Nat} {cap : Cap} {f : Nat → Int} {b : Blk} {p : Nat → Bool} {fn : Nat} {cs : List V} (h : At H i off (rowL .u16 m f) b) (h0 : 0 < m) (hm : m ≤ 9223372036854775806)
    (hp : ∀ j, j < m → ∀ L, Cal Tryz.prog fn (.v (.int .u16 (f j)) :: cs) (H ++ L) fun v H' => v = .v (.bool (p j)) ∧ H' = H ++ L) :
    Cal Tryz.prog 137 [.s i off m cap, .f fn cs] H fun v H' => v = .v (.int .i64 (idxF m p)) ∧ H' = H := by
  refine cal_fn 17 mixed Tryz.func137 Tryz.ntmps137 Tryz.results137 rfl rfl rfl fun hw cx hx hq => ?_
  simp only [go_sem]
  refine WK_for (fun n : Nat => ⟨[.s i off m cap, .f fn cs, .any, .any, .any, .any, .any, .v (.int .i64 m), .v (.int .i64 n)] ++ junk 10, H⟩) (fun n => n ≤ m ∧ ∀ j, j < n → p j = false) (fun n => m - n) 0 (Weak.slots ?_) ?_ fun n hn => ?_
  · simp [go_sem]
  · simp
  rcases Int.lt_or_le (n : Int) m with hc | hc
  · have hlen := h.len (by simp only [go_sem]; omega)
    simp only [go_sem] at hlen
    have hq' := hp n (by omega) []
    rw [List.append_nil] at hq'
    simp only [go_sem, hc, h.get, h.live, h.cel (show n < m by omega)]
    repeat (refine And.intro (by omega) ?_)
    refine call_ret hq' (by simp only [go_sem]) ?_
    simp only [go_sem]
    refine ⟨fun e => ?_, fun e => ?_⟩
    · refine ret_same hq _ (.inl rfl) ?_
      simp only [go_sem]
      rw [idxF_at (by omega) e hn.2]
    · repeat (refine And.intro (by omega) ?_)
      refine EK_again (n + 1) (Weak.slots (by simp [go_sem])) ⟨by omega, fun j hj => ?_⟩ (by omega)
      by_cases e2 : j = n
      · subst e2; exact e
      · exact hn.2 j (by omega)
  · simp only [go_sem, Int.not_lt.2 hc]
    refine ret_same hq _ (.inl rfl) ?_
    simp only [go_sem]
    have : n = m := by omega
    subst this
    rw [idxF_none hn.2]
theorem containsFunc16 {H : List Blk} {i off m : Nat} {cap : Cap} {f : Nat → Int} {b : Blk} {p : Nat → Bool} {fn : Nat} {cs : List V} (h : At H i off (rowL .u16 m f) b) (h0 : 0 < m) (hm : m ≤ 9223372036854775806)
    (hp : ∀ j, j < m → ∀ L, Cal Tryz.prog fn (.v (.int .u16 (f j)) :: cs) (H ++ L) fun v H' => v = .v (.bool (p j)) ∧ H' = H ++ L) :
    Cal Tryz.prog 116 [.s i off m cap, .f fn cs] H fun v H' => v = .v (.bool (anyN m p)) ∧ H' = H := by
  refine cal_fn 7 mixed Tryz.func116 Tryz.ntmps116 Tryz.results116 rfl rfl rfl fun hw cx hx hq => ?_
  simp only [go_sem]
  refine call_ret (indexFunc16 h h0 hm hp) (by simp only [go_sem]) ?_
  simp only [go_sem, idxF_nonneg]
  refine ret_same hq _ (.inl rfl) ?_
  simp only [go_sem]
theorem indexFuncF {H : List Blk} {i off : Nat} {cap : Cap} {l : List (Nat → Int)} {b : Blk} {p : Nat → Bool} {fn : Nat} {cs : List V} (h : At H i off (l.flatMap (rowL .u16 12)) b) (hm : l.length ≤ 9223372036854775806)
    (hp : ∀ j (hj : j < l.length), ∀ L, Cal Tryz.prog fn (.a (rowL .u16 12 (l[j])) :: cs) (H ++ L) fun v H' => v = .v (.bool (p j)) ∧ H' = H ++ L) :
    Cal Tryz.prog 115 [.s i off l.length cap, .f fn cs] H fun v H' => v = .v (.int .i64 (idxF l.length p)) ∧ H' = H := by
  refine cal_fn 17 mixed Tryz.func115 Tryz.ntmps115 Tryz.results115 rfl rfl rfl fun hw cx hx hq => ?_
  simp only [go_sem]
  refine WK_for (fun n : Nat => ⟨[.s i off l.length cap, .f fn cs, .any, .any, .any, .any, .any, .v (.int .i64 l.length), .v (.int .i64 n)] ++ junk 10, H⟩) (fun n => n ≤ l.length ∧ ∀ j, j < n → p j = false) (fun n => l.length - n) 0 (Weak.slots ?_) ?_ fun n hn => ?_
  · simp [go_sem]
  · simp
  rcases Int.lt_or_le (n : Int) l.length with hc | hc
  · have hj : n < l.length := by omega
    have hlen := h.fits _ 12 (fun _ => rowL_length ..) hj (by omega)
    have hq' := hp n hj []
    rw [List.append_nil] at hq'
    simp only [go_sem, hc, h.get, h.live, h.elem _ 12 (fun _ => rowL_length ..) hj]
    repeat (refine And.intro (by omega) ?_)
    refine call_ret hq' (by simp only [go_sem]) ?_
    simp only [go_sem]
    refine ⟨fun e => ?_, fun e => ?_⟩
    · refine ret_same hq _ (.inl rfl) ?_
      simp only [go_sem]
      rw [idxF_at (by omega) e hn.2]
    · repeat (refine And.intro (by omega) ?_)
      refine EK_again (n + 1) (Weak.slots (by simp [go_sem])) ⟨by omega, fun j hj => ?_⟩ (by omega)
      by_cases e2 : j = n
      · subst e2; exact e
      · exact hn.2 j (by omega)
  · simp only [go_sem, Int.not_lt.2 hc]
    refine ret_same hq _ (.inl rfl) ?_
    simp only [go_sem]
    have : n = l.length := by omega
    subst this
    rw [idxF_none hn.2]
theorem containsFuncF {H : List Blk} {i off : Nat} {cap : Cap} {l : List (Nat → Int)} {b : Blk} {p : Nat → Bool} {fn : Nat} {cs : List V} (h : At H i off (l.flatMap (rowL .u16 12)) b) (hm : l.length ≤ 9223372036854775806)
    (hp : ∀ j (hj : j < l.length), ∀ L, Cal Tryz.prog fn (.a (rowL .u16 12 (l[j])) :: cs) (H ++ L) fun v H' => v = .v (.bool (p j)) ∧ H' = H ++ L) :
    Cal Tryz.prog 97 [.s i off l.length cap, .f fn cs] H fun v H' => v = .v (.bool (anyN l.length p)) ∧ H' = H := by
  refine cal_fn 7 mixed Tryz.func97 Tryz.ntmps97 Tryz.results97 rfl rfl rfl fun hw cx hx hq => ?_
  simp only [go_sem]
  refine call_ret (indexFuncF h hm hp) (by simp only [go_sem]) ?_
  simp only [go_sem, idxF_nonneg]
  refine ret_same hq _ (.inl rfl) ?_
  simp only [go_sem]

theorem validFrame1 {H : List Blk} {x : Int} : Cal Tryz.prog 117 [.v (.int .u16 x)] H fun v H' => v = .v (.bool (decide (4095 < x))) ∧ H' = H := by
  refine cal_fn 4 mixed Tryz.func117 Tryz.ntmps117 Tryz.results117 rfl rfl rfl fun hw cx hx hq => ?_
  simp only [go_sem]
  refine ret_same hq _ (.inl rfl) ?_
  simp only [go_sem]
theorem not_any_ok (f : Nat → Int) : (!anyN 12 fun j => decide (4095 < f j)) = okF f := by
  unfold okF; rw [not_anyN]; congr 1; funext j; rw [Bool.eq_iff_iff]; simp
theorem validFrame {H : List Blk} {f : Nat → Int} : Cal Tryz.prog 99 [.a (rowL .u16 12 (f))] H fun v H' => v = .v (.bool (okF f)) ∧ H' = H := by
  refine cal_fn 5 mixed Tryz.func99 Tryz.ntmps99 Tryz.results99 rfl rfl rfl fun hw cx hx hq => ?_
  simp only [go_sem]
  repeat (refine And.intro (by omega) ?_)
  refine call_ret (containsFunc16 (p := fun j => decide (4095 < f j)) (At.mk0 rfl) (by omega) (by omega) fun j _ L => validFrame1) (by simp only [go_sem]) ?_
  simp only [go_sem, not_any_ok]
  refine ret_cut hq hw _ (.inl rfl) ?_
  simp only [go_sem]
theorem areFrames1 {H : List Blk} {f : Nat → Int} : Cal Tryz.prog 98 [.a (rowL .u16 12 (f))] H fun v H' => v = .v (.bool (!okF f)) ∧ H' = H := by
  refine cal_fn 5 mixed Tryz.func98 Tryz.ntmps98 Tryz.results98 rfl rfl rfl fun hw cx hx hq => ?_
  simp only [go_sem]
  refine call_ret validFrame (by simp only [go_sem]) ?_
  simp only [go_sem]
  refine ret_cut hq hw _ (.inl rfl) ?_
  simp only [go_sem]
theorem not_any_all (l : List (Nat → Int)) : (!anyN l.length fun j => !okF (l[j]?.getD fun _ => 0)) = l.all okF := by
  unfold anyN
  rw [Bool.eq_iff_iff]
  simp only [Bool.not_eq_true', List.any_eq_false, List.mem_range, Bool.not_eq_true, List.all_eq_true]
  constructor
  · intro h x hx
    obtain ⟨j, hj, rfl⟩ := List.mem_iff_getElem.1 hx
    have := h j hj
    simpa [hj] using this
  · intro h j hj
    simp only [List.getElem?_eq_getElem hj, Option.getD_some]
    rw [h _ (List.getElem_mem hj)]; simp
theorem areFrames {H : List Blk} {i off : Nat} {cap : Cap} {l : List (Nat → Int)} {b : Blk} (h : At H i off (l.flatMap (rowL .u16 12)) b) (hm : l.length ≤ 9223372036854775806) :
    Cal Tryz.prog 75 [.s i off l.length cap] H fun v H' => v = .v (.bool (l.all okF)) ∧ H' = H := by
  refine cal_fn 5 mixed Tryz.func75 Tryz.ntmps75 Tryz.results75 rfl rfl rfl fun hw cx hx hq => ?_
  simp only [go_sem]
  refine call_ret (containsFuncF (p := fun j => !okF (l[j]?.getD fun _ => 0)) h hm fun j hj L => ?_) (by simp only [go_sem]) ?_
  · simp only [List.getElem?_eq_getElem hj, Option.getD_some]; exact areFrames1
  simp only [go_sem, not_any_all]
  refine ret_same hq _ (.inl rfl) ?_
  simp only [go_sem]

theorem mix {H : List Blk} {f g h : Nat → Int} {fn : Nat} {cs : List V} (hop : ∀ j, j < 12 → ∀ L, Cal Tryz.prog fn (.v (.int .u16 (f j)) :: .v (.int .u16 (g j)) :: cs) (H ++ L) fun v H' => v = .v (.int .u16 (h j)) ∧ H' = H ++ L) :
    Cal Tryz.prog 109 [.a (rowL .u16 12 (f)), .a (rowL .u16 12 (g)), .f fn cs] H fun v H' => v = .a (rowL .u16 12 (h)) ∧ H' = H := by
  refine cal_fn 21 mixed Tryz.func109 Tryz.ntmps109 Tryz.results109 rfl rfl rfl fun hw cx hx hq => ?_
  simp only [go_sem, rowL_rep]
  refine WK_for (fun n : Nat => ⟨[.a (rowL .u16 12 (f)), .a (rowL .u16 12 (g)), .f fn cs, .p H.length 0, .p (H.length + 1) 0, .any, .p (H.length + 2) 0, .any, .any, .a (rowL .u16 12 (f)), .v (.int .i64 n)] ++ junk 13, H ++ [⟨rowL .u16 12 (pfx h f n), 50, .fix⟩, ⟨rowL .u16 12 (g), 50, .fix⟩, ⟨rowL .u16 12 (fun _ => 0), 50, .fix⟩]⟩) (fun n => n ≤ 12) (fun n => 12 - n) 0 (Weak.slots ?_) ?_ fun n hn => ?_
  · simp [go_sem]
  · simp
  rcases Int.lt_or_le (n : Int) 12 with hc | hc
  · have hj : n < 12 := by omega
    simp only [go_sem, hc, rowL_cel _ _ _ hj]
    repeat (refine And.intro (by omega) ?_)
    refine call_ret (hop n hj _) (by simp only [go_sem]) ?_
    simp only [go_sem]
    repeat (refine And.intro (by omega) ?_)
    refine EK_again (n + 1) ?_ (by omega) (by omega)
    rw [wr_pfx .u16 h f hj rfl]
    exact Weak.slots (by simp [go_sem])
  · have : n = 12 := by omega
    subst this
    simp only [go_sem, Int.not_lt.2 hc, pfx_all]
    refine ret_cut hq hw _ (.inl rfl) ?_
    simp only [go_sem]
end Go.Proofs.YtaekjojblkhfdaaGreatDoor
namespace Go.Proofs.YtaekjojblkhfdaaGreatDoor
open Go Go.Sx
theorem zeros_zero (zs : List V) : zerosL zs 0 = [] := rfl
theorem zeros_succ (zs : List V) (n : Nat) : zerosL zs (n + 1) = zs ++ zerosL zs n := rfl
attribute [go_sem] zeros_zero zeros_succ
theorem areFrames2 {H : List Blk} {i off : Nat} {cap : Cap} {f g : Nat → Int} {b : Blk} (h : At H i off (rowL .u16 12 (f) ++ rowL .u16 12 (g)) b) :
    Cal Tryz.prog 75 [.s i off 2 cap] H fun v H' => v = .v (.bool (okF f && okF g)) ∧ H' = H := by
  have := areFrames (l := [f, g]) (cap := cap) (by simpa using h) (by simp)
  simpa using this
end Go.Proofs.YtaekjojblkhfdaaGreatDoor
namespace Go.Proofs.YtaekjojblkhfdaaGreatDoor
open Go Go.Sx
theorem allEq_self (n : Nat) (f : Nat → Int) : allEq n f f = true := allEq_iff.2 fun _ _ => rfl
end Go.Proofs.YtaekjojblkhfdaaGreatDoor
namespace Go.Proofs.YtaekjojblkhfdaaGreatDoor
open Go Go.Sx
theorem l00In {H : List Blk} {n lo hi : Int} : Cal Tryz.prog 46 [.v (.int .i64 n), .v (.int .i64 lo), .v (.int .i64 hi)] H fun v H' => v = .v (.bool (decide (lo ≤ n) && decide (n ≤ hi))) ∧ H' = H := by
  refine cal_fn 12 mixed Tryz.func46 Tryz.ntmps46 Tryz.results46 rfl rfl rfl fun hw cx hx hq => ?_
  by_cases h1 : lo ≤ n
  · simp only [go_sem, h1]
    refine ret_same hq _ (.inl rfl) ?_
    simp [go_sem, h1]
  · simp only [go_sem, h1]
    refine ret_same hq _ (.inl rfl) ?_
    simp [go_sem, h1]
theorem inRange {H : List Blk} {n lo hi : Int} : Cal Tryz.prog 35 [.v (.int .i64 n), .v (.int .i64 lo), .v (.int .i64 hi)] H fun v H' => v = .v (.bool (decide (lo ≤ n) && decide (n ≤ hi))) ∧ H' = H := by
  refine cal_fn 12 mixed Tryz.func35 Tryz.ntmps35 Tryz.results35 rfl rfl rfl fun hw cx hx hq => ?_
  by_cases h1 : lo ≤ n
  · simp only [go_sem, h1]
    refine ret_same hq _ (.inl rfl) ?_
    simp [go_sem, h1]
  · simp only [go_sem, h1]
    refine ret_same hq _ (.inl rfl) ?_
    simp [go_sem, h1]
theorem l01Place {H : List Blk} {a b : Int} : Cal Tryz.prog 177 [.v (.int .i64 a), .v (.int .i64 b)] H fun v H' => v = .v (.bool (placeB a b)) ∧ H' = H := by
  refine cal_fn 9 mixed Tryz.func177 Tryz.ntmps177 Tryz.results177 rfl rfl rfl fun hw cx hx hq => ?_
  simp only [go_sem]
  refine call_ret l00In (by simp only [go_sem]) ?_
  cases e : (decide (0 ≤ a) && decide (a ≤ 11))
  · simp only [go_sem]
    refine ret_same hq _ (.inl rfl) ?_
    simp [go_sem, placeB, e]
  · simp only [go_sem]
    refine call_ret l00In (by simp only [go_sem]) ?_
    simp only [go_sem]
    refine ret_same hq _ (.inl rfl) ?_
    simp [go_sem, placeB, e]
theorem l01Has {H : List Blk} {i off : Nat} {f : Nat → Int} {b : Blk} {a c : Int} (h : At H i off (rowL .u16 12 (f)) b) (hf : R16 f) : Cal Tryz.prog 162 [.p i off, .v (.int .i64 a), .v (.int .i64 c)] H fun v H' => v = .v (.bool (hasF f a c)) ∧ H' = H := by
  refine cal_fn 19 mixed Tryz.func162 Tryz.ntmps162 Tryz.results162 rfl rfl rfl fun hw cx hx hq => ?_
  simp only [go_sem]
  refine call_ret l01Place (by simp only [go_sem]) ?_
  cases e : placeB a c
  · simp only [go_sem]
    refine ret_same hq _ (.inl rfl) ?_
    simp [go_sem, hasF, e]
  · have e' := placeB_iff.1 e
    have hlen := h.len (by simp [go_sem])
    simp only [go_sem] at hlen
    have h16 := hf c.toNat (by omega)
    simp only [go_sem, h.get, h.live, h.cel (show c.toNat < 12 by omega)]
    have hwr : IntKind.u64.wrap a = a := wrap_u64 (by omega) (by omega)
    repeat (refine And.intro (by omega) ?_)
    refine ret_same hq _ (.inl rfl) ?_
    simp only [go_sem, hasF, e, shr_dot h16.1 e'.1.1 (by omega), dot]
def dotL (k : Nat) : List V := [.v (.int .i8 ((k % 12 : Nat) : Int)), .v (.int .i8 ((k / 12 : Nat) : Int))]
theorem dotL_len (k : Nat) : (dotL k).length = 2 := rfl
theorem wrap_i8 {x : Int} (h : -128 ≤ x) (h2 : x ≤ 127) : IntKind.i8.wrap x = x := by
  unfold IntKind.wrap
  simp only [IntKind.bits, IntKind.signed, Bool.true_and]
  split <;> rename_i hc <;> simp only [decide_eq_true_eq, ge_iff_le] at hc <;> omega
theorem dots_lts (m : Nat) (l : List Nat) : lts m (l.flatMap dotL) := by
  rw [lts_iff]; intro v hv
  obtain ⟨k, _, hk⟩ := List.mem_flatMap.1 hv
  simp [dotL] at hk
  rcases hk with rfl | rfl <;> rfl
theorem l01Dots {H : List Blk} {i off : Nat} {f : Nat → Int} {b : Blk} (h : At H i off (rowL .u16 12 (f)) b) (hf : R16 f) :
    Cal Tryz.prog 135 [.p i off] H fun v H' => v = .s H.length 0 (dotsF f).length (.u 0) ∧ H' = H ++ [⟨(dotsF f).flatMap dotL, 197, .own 2⟩] := by
  refine cal_fn 27 mixed Tryz.func135 Tryz.ntmps135 Tryz.results135 rfl rfl rfl fun hw cx hx hq => ?_
  simp only [go_sem]
  repeat (refine And.intro (by omega) ?_)
  refine WK_for (fun y : Nat => ⟨[.p i off, .any, .any, .s H.length 0 (dotsTo f (y * 12)).length (.u 0), .v (.int .i64 y)] ++ junk 23, H ++ [⟨(dotsTo f (y * 12)).flatMap dotL, 197, .own 2⟩]⟩) (fun y => y ≤ 12) (fun y => 12 - y) 0 (Weak.slots ?_) ?_ fun y hy => ?_
  · simp [go_sem, dotsTo]
  · simp
  rcases Int.lt_or_le (y : Int) 12 with hc | hc
  · simp only [go_sem, hc]
    refine WK_for (fun z : Nat => ⟨[.p i off, .any, .any, .s H.length 0 (dotsTo f (y * 12 + z)).length (.u 0), .v (.int .i64 y), .v (.int .i64 z)] ++ junk 22, H ++ [⟨(dotsTo f (y * 12 + z)).flatMap dotL, 197, .own 2⟩]⟩) (fun z => z ≤ 12) (fun z => 12 - z) 0 (Weak.slots ?_) ?_ fun z hz => ?_
    · simp [go_sem]
    · simp
    rcases Int.lt_or_le (z : Int) 12 with hc2 | hc2
    · simp only [go_sem, hc2]
      refine call_ret (l01Has h.app hf) (by simp only [go_sem]) ?_
      have hdot : hasF f z y = dot f z y := by simp [hasF, placeB]; omega
      have hk1 : (y * 12 + z) % 12 = z := by omega
      have hk2 : (y * 12 + z) / 12 = y := by omega
      have hsucc := dotsTo_succ f (y * 12 + z)
      rw [hk1, hk2] at hsucc
      have hlen := dotsTo_len f (y * 12 + z)
      cases e : dot f z y
      · rw [hdot, e]
        simp only [go_sem]
        repeat (refine And.intro (by omega) ?_)
        have e2 : dotsTo f (y * 12 + (z + 1)) = dotsTo f (y * 12 + z) := by rw [← Nat.add_assoc, hsucc, e]; simp
        refine EK_again (z + 1) ?_ (by omega) (by omega)
        simp only [e2]
        exact Weak.slots (by simp [go_sem])
      · rw [hdot, e]
        have e2 : dotsTo f (y * 12 + (z + 1)) = dotsTo f (y * 12 + z) ++ [y * 12 + z] := by rw [← Nat.add_assoc, hsucc, e]; simp
        have hl2 := flat_len dotL 2 dotL_len (dotsTo f (y * 12 + z))
        have hn : norefH H.length H := norefH_wf hw (Nat.le_refl _)
        have hn2 : norefs H.length ((dotsTo f (y * 12 + z)).flatMap dotL) = true := lts_norefs (Nat.le_refl _) _ (dots_lts _ _)
        have hij : (i = H.length) = False := eq_false (by have := h.lt; omega)
        simp only [go_sem, wrap_i8 (show (-128 : Int) ≤ z by omega) (by omega), wrap_i8 (show (-128 : Int) ≤ y by omega) (by omega), hl2, hn, hn2, hij, hx]
        repeat (refine And.intro (by omega) ?_)
        refine EK_again (z + 1) ?_ (by omega) (by omega)
        have e3 : (dotsTo f (y * 12 + z) ++ [y * 12 + z]).flatMap dotL = (dotsTo f (y * 12 + z)).flatMap dotL ++ [.v (.int .i8 z), .v (.int .i8 y)] := by
          rw [List.flatMap_append]; simp [dotL, hk1, hk2]
        simp only [e2, e3]
        refine Weak.both (H := H ++ [⟨(dotsTo f (y * 12 + z)).flatMap dotL ++ [.v (.int .i8 z), .v (.int .i8 y)], 197, .own 2⟩]) (L := [⟨[.v (.int .i8 z), .v (.int .i8 y)], 197, .own 2⟩]) ?_ ?_ ?_ ?_ (hw.one ?_)
        · simp
        · simp [go_sem]
        · simp [hx]
        · have := h.lt
          simp only [go_sem, List.length_append, List.length_cons, List.length_nil]
          omega
        · simp [go_sem, dots_lts]
    · have : z = 12 := by omega
      subst this
      simp only [go_sem, Int.not_lt.2 hc2]
      have e2 : y * 12 + 12 = (y + 1) * 12 := by omega
      repeat (refine And.intro (by omega) ?_)
      refine EK_again (y + 1) ?_ (by omega) (by omega)
      simp only [e2]
      exact Weak.slots (by simp [go_sem])
  · have : y = 12 := by omega
    subst this
    simp only [go_sem, Int.not_lt.2 hc]
    refine ret_at hq _ (.inl rfl) (by simp) ?_
    simp only [go_sem, dotsF]

theorem okF_f12 {f : Nat → Int} (h : okF f = true) (hf : R16 f) : F12 f := fun j hj => ⟨(hf j hj).1, (okF_iff f).1 h j hj⟩
end Go.Proofs.YtaekjojblkhfdaaGreatDoor
namespace Go.Proofs.YtaekjojblkhfdaaGreatDoor
open Go Go.Sx
theorem indexFuncR {H : List Blk} {v : V} {l : List (Nat → Int)} {p : (Nat → Int) → Bool} {fn : Nat} {cs : List V} (h : Rd H v (rowL .u16 12) l) (hm : l.length ≤ 9223372036854775806)
    (hp : ∀ j (hj : j < l.length), ∀ L, Cal Tryz.prog fn (.a ((rowL .u16 12) l[j]) :: cs) (H ++ L) fun v H' => v = .v (.bool (p l[j])) ∧ H' = H ++ L) :
    Cal Tryz.prog 115 [v, .f fn cs] H fun u H' => u = .v (.int .i64 (idxL p l)) ∧ H' = H := by
  have hL := h.lenV (P := Tryz.prog) slTy24
  refine cal_fn 17 mixed Tryz.func115 Tryz.ntmps115 Tryz.results115 rfl rfl rfl fun hw cx hx hq => ?_
  simp only [go_sem, hL]
  refine WK_for (fun n : Nat => ⟨[v, .f fn cs, .any, .any, .any, .any, .any, .v (.int .i64 l.length), .v (.int .i64 n)] ++ junk 10, H⟩) (fun n => n ≤ l.length ∧ ∀ j (hj : j < l.length), j < n → p l[j] = false) (fun n => l.length - n) 0 (Weak.slots ?_) ?_ fun n hn => ?_
  · simp [go_sem]
  · simp
  rcases Int.lt_or_le (n : Int) l.length with hc | hc
  · have hj : n < l.length := by omega
    obtain ⟨i, off, c, bl, rfl, hat⟩ := h.row (by omega)
    have hfit := hat.fits (rowL .u16 12) 12 (fun _ => rowL_length ..) hj (by omega)
    have hq' := hp n hj []
    rw [List.append_nil] at hq'
    simp only [go_sem, hc, hat.get, hat.live, hat.elem (rowL .u16 12) 12 (fun _ => rowL_length ..) hj]
    repeat (refine And.intro (by omega) ?_)
    refine call_ret hq' (by simp only [go_sem]) ?_
    simp only [go_sem]
    refine ⟨fun e => ?_, fun e => ?_⟩
    · refine ret_same hq _ (.inl rfl) ?_
      simp only [go_sem]
      rw [idxL_at hj e hn.2]
    · repeat (refine And.intro (by omega) ?_)
      refine EK_again (n + 1) (Weak.slots (by simp [go_sem])) ⟨by omega, fun j hj2 hj3 => ?_⟩ (by omega)
      by_cases e2 : j = n
      · subst e2; exact e
      · exact hn.2 j hj2 (by omega)
  · simp only [go_sem, Int.not_lt.2 hc]
    refine ret_same hq _ (.inl rfl) ?_
    simp only [go_sem]
    rw [idxL_none fun j hj => hn.2 j hj (by omega)]
theorem containsFuncR {H : List Blk} {v : V} {l : List (Nat → Int)} {p : (Nat → Int) → Bool} {fn : Nat} {cs : List V} (h : Rd H v (rowL .u16 12) l) (hm : l.length ≤ 9223372036854775806)
    (hp : ∀ j (hj : j < l.length), ∀ L, Cal Tryz.prog fn (.a ((rowL .u16 12) l[j]) :: cs) (H ++ L) fun v H' => v = .v (.bool (p l[j])) ∧ H' = H ++ L) :
    Cal Tryz.prog 97 [v, .f fn cs] H fun u H' => u = .v (.bool (l.any p)) ∧ H' = H := by
  have hsol := h.solid
  refine cal_fn 7 mixed Tryz.func97 Tryz.ntmps97 Tryz.results97 rfl rfl rfl fun hw cx hx hq => ?_
  simp only [go_sem]
  refine call_ret (indexFuncR h hm hp) (by simp only [go_sem, hsol]) ?_
  simp only [go_sem, idxL_nonneg]
  refine ret_same hq _ (.inl rfl) ?_
  simp only [go_sem]


theorem areFramesR {H : List Blk} {v : V} {l : List (Nat → Int)} (h : Rd H v (rowL .u16 12) l) (hm : l.length ≤ 9223372036854775806) :
    Cal Tryz.prog 75 [v] H fun u H' => u = .v (.bool (l.all okF)) ∧ H' = H := by
  have hsol := h.solid
  refine cal_fn 5 mixed Tryz.func75 Tryz.ntmps75 Tryz.results75 rfl rfl rfl fun hw cx hx hq => ?_
  simp only [go_sem]
  refine call_ret (containsFuncR (p := fun f => !okF f) h hm fun j hj L => areFrames1) (by simp only [go_sem, hsol]) ?_
  simp only [go_sem, not_any_not]
  refine ret_same hq _ (.inl rfl) ?_
  simp only [go_sem]
def okB (l : List (Nat → Int)) : Bool := decide (l.length ≤ 40) && l.all okF
theorem okB_iff {l : List (Nat → Int)} : okB l = true ↔ l.length ≤ 40 ∧ l.all okF = true := by simp [okB]
theorem validBook {H : List Blk} {v : V} {l : List (Nat → Int)} (h : Rd H v (rowL .u16 12) l) (hm : l.length ≤ 9223372036854775806) :
    Cal Tryz.prog 38 [v] H fun u H' => u = .v (.bool (okB l)) ∧ H' = H := by
  have hsol := h.solid
  have hL := h.lenV (P := Tryz.prog) slTy25
  refine cal_fn 9 mixed Tryz.func38 Tryz.ntmps38 Tryz.results38 rfl rfl rfl fun hw cx hx hq => ?_
  simp only [go_sem, hL]
  by_cases e : l.length ≤ 40
  · have e' : (l.length : Int) ≤ 40 := by omega
    simp only [go_sem, e']
    refine call_ret (areFramesR h hm) (by simp only [go_sem, hsol]) ?_
    simp only [go_sem]
    refine ret_same hq _ (.inl rfl) ?_
    simp [go_sem, okB, e]
  · have e' : ¬ (l.length : Int) ≤ 40 := by omega
    simp only [go_sem, e']
    refine ret_same hq _ (.inl rfl) ?_
    simp [go_sem, okB, e]
theorem l02Ok {H : List Blk} {v : V} {l : List (Nat → Int)} (h : Rd H v (rowL .u16 12) l) (hm : l.length ≤ 9223372036854775806) :
    Cal Tryz.prog 45 [v] H fun u H' => u = .v (.bool (okB l)) ∧ H' = H := by
  have hsol := h.solid
  have hL := h.lenV (P := Tryz.prog) slTy25
  refine cal_fn 17 mixed Tryz.func45 Tryz.ntmps45 Tryz.results45 rfl rfl rfl fun hw cx hx hq => ?_
  simp only [go_sem]
  refine WK_for (fun n : Nat => ⟨[v, .any, .v (.bool false), .v (.int .i64 n)] ++ junk 14, H⟩) (fun n => n ≤ l.length ∧ ∀ j (hj : j < l.length), j < n → okF l[j] = true) (fun n => l.length - n) 0 (Weak.slots ?_) ?_ fun n hn => ?_
  · simp [go_sem]
  · simp
  rcases Int.lt_or_le (n : Int) l.length with hc | hc
  · have hj : n < l.length := by omega
    obtain ⟨i, off, c, bl, rfl, hat⟩ := h.row (by omega)
    have hfit := hat.fits (rowL .u16 12) 12 (fun _ => rowL_length ..) hj (by omega)
    have hatj : At H i (off + n * 12) (rowL .u16 12 l[n]) bl := ⟨hat.get, hat.live, by rw [rowL_length]; exact hat.elem (rowL .u16 12) 12 (fun _ => rowL_length ..) hj⟩
    simp only [go_sem, hc]
    repeat (refine And.intro (by omega) ?_)
    refine call_ret (l01Ok hatj) (by simp only [go_sem]) ?_
    simp only [go_sem]
    refine ⟨fun e => ?_, fun e => ?_⟩
    · refine ret_same hq _ (.inl rfl) ?_
      simp only [go_sem]
      have : okB l = false := by
        rw [Bool.eq_false_iff]; intro h2
        have := List.all_eq_true.1 (okB_iff.1 h2).2 _ (List.getElem_mem hj)
        rw [e] at this; cases this
      rw [this]
    · repeat (refine And.intro (by omega) ?_)
      refine EK_again (n + 1) (Weak.slots (by simp [go_sem])) ⟨by omega, fun j hj2 hj3 => ?_⟩ (by omega)
      by_cases e2 : j = n
      · subst e2; exact e
      · exact hn.2 j hj2 (by omega)
  · simp only [go_sem, hL, Int.not_lt.2 hc]
    refine ret_same hq _ (.inl rfl) ?_
    simp only [go_sem]
    have : l.all okF = true := List.all_eq_true.2 fun x hx => by
      obtain ⟨j, hj, rfl⟩ := List.mem_iff_getElem.1 hx
      exact hn.2 j hj (by omega)
    simp [okB, this]; omega
theorem isPage {H : List Blk} {v : V} {l : List (Nat → Int)} {p : Int} (h : Rd H v (rowL .u16 12) l) (hm : l.length ≤ 9223372036854775806) :
    Cal Tryz.prog 43 [v, .v (.int .i64 p)] H fun u H' => u = .v (.bool (decide (0 ≤ p) && decide (p ≤ l.length - 1))) ∧ H' = H := by
  have hL := h.lenV (P := Tryz.prog) slTy25
  refine cal_fn 8 mixed Tryz.func43 Tryz.ntmps43 Tryz.results43 rfl rfl rfl fun hw cx hx hq => ?_
  simp only [go_sem, hL]
  repeat (refine And.intro (by omega) ?_)
  refine call_ret inRange (by simp only [go_sem]) ?_
  simp only [go_sem]
  refine ret_same hq _ (.inl rfl) ?_
  simp only [go_sem]
def pageC (l : List (Nat → Int)) (p : Int) : Int := if okB l = true then (if (decide (0 ≤ p) && decide (p ≤ (l.length : Int) - 1)) = true then 0 else 2) else 1
theorem checkPage {H : List Blk} {v : V} {l : List (Nat → Int)} {p : Int} (h : Rd H v (rowL .u16 12) l) (hm : l.length ≤ 9223372036854775806) :
    Cal Tryz.prog 68 [v, .v (.int .i64 p)] H fun u H' => u = .v (.int .i64 (pageC l p)) ∧ H' = H := by
  have hsol := h.solid
  refine cal_fn 12 mixed Tryz.func68 Tryz.ntmps68 Tryz.results68 rfl rfl rfl fun hw cx hx hq => ?_
  simp only [go_sem]
  refine call_ret (validBook h hm) (by simp only [go_sem, hsol]) ?_
  cases e1 : okB l
  · simp only [go_sem]
    refine ret_same hq _ (.inl rfl) ?_
    simp [go_sem, pageC, e1]
  simp only [go_sem]
  refine call_ret (isPage h hm) (by simp only [go_sem, hsol]) ?_
  cases e2 : (decide (0 ≤ p) && decide (p ≤ (l.length : Int) - 1))
  · simp only [go_sem]
    refine ret_same hq _ (.inl rfl) ?_
    simp only [go_sem, pageC, e1, e2]
  · simp only [go_sem]
    refine ret_same hq _ (.inl rfl) ?_
    simp only [go_sem, pageC, e1, e2]
theorem l04Page {H : List Blk} {v : V} {l : List (Nat → Int)} {p : Int} (h : Rd H v (rowL .u16 12) l) (hm : l.length ≤ 9223372036854775806) :
    Cal Tryz.prog 70 [v, .v (.int .i64 p)] H fun u H' => u = .v (.int .i64 (pageC l p)) ∧ H' = H := by
  have hsol := h.solid
  have hL := h.lenV (P := Tryz.prog) slTy25
  refine cal_fn 12 mixed Tryz.func70 Tryz.ntmps70 Tryz.results70 rfl rfl rfl fun hw cx hx hq => ?_
  simp only [go_sem]
  refine call_ret (l02Ok h hm) (by simp only [go_sem, hsol]) ?_
  cases e1 : okB l
  · simp only [go_sem]
    refine ret_same hq _ (.inl rfl) ?_
    simp [go_sem, pageC, e1]
  simp only [go_sem, hL]
  repeat (refine And.intro (by omega) ?_)
  refine call_ret l00In (by simp only [go_sem]) ?_
  cases e2 : (decide (0 ≤ p) && decide (p ≤ (l.length : Int) - 1))
  · simp only [go_sem]
    refine ret_same hq _ (.inl rfl) ?_
    simp only [go_sem, pageC, e1, e2]
  · simp only [go_sem]
    refine ret_same hq _ (.inl rfl) ?_
    simp only [go_sem, pageC, e1, e2]
end Go.Proofs.YtaekjojblkhfdaaGreatDoor
namespace Go.Proofs.YtaekjojblkhfdaaGreatDoor
open Go Go.Sx
theorem hz12 : ∀ x : Nat → Int, (rowL .u16 12 x).length = 12 := fun _ => rowL_length ..
end Go.Proofs.YtaekjojblkhfdaaGreatDoor
namespace Go.Proofs.YtaekjojblkhfdaaGreatDoor
open Go Go.Sx
theorem onesCount16 {H : List Blk} {x : Int} (h0 : 0 ≤ x ∧ x < 65536) : Cal Tryz.prog 111 [.v (.int .u16 x)] H fun v H' => v = .v (.int .i64 (pc x.toNat)) ∧ H' = H := by
  have tab : ∀ n : Nat, n < 256 → ((({ data := (([0, 1, 1, 2, 1, 2, 2, 3, 1, 2, 2, 3, 2, 3, 3, 4, 1, 2, 2, 3, 2, 3, 3, 4, 2, 3, 3, 4, 3, 4, 4, 5, 1, 2, 2, 3, 2, 3, 3, 4, 2, 3, 3, 4, 3, 4, 4, 5, 2, 3, 3, 4, 3, 4, 4, 5, 3, 4, 4, 5, 4, 5, 5, 6].append [1, 2, 2, 3, 2, 3, 3, 4, 2, 3, 3, 4, 3, 4, 4, 5, 2, 3, 3, 4, 3, 4, 4, 5, 3, 4, 4, 5, 4, 5, 5, 6, 2, 3, 3, 4, 3, 4, 4, 5, 3, 4, 4, 5, 4, 5, 5, 6, 3, 4, 4, 5, 4, 5, 5, 6, 4, 5, 5, 6, 5, 6, 6, 7]).append ([1, 2, 2, 3, 2, 3, 3, 4, 2, 3, 3, 4, 3, 4, 4, 5, 2, 3, 3, 4, 3, 4, 4, 5, 3, 4, 4, 5, 4, 5, 5, 6, 2, 3, 3, 4, 3, 4, 4, 5, 3, 4, 4, 5, 4, 5, 5, 6, 3, 4, 4, 5, 4, 5, 5, 6, 4, 5, 5, 6, 5, 6, 6, 7].append [2, 3, 3, 4, 3, 4, 4, 5, 3, 4, 4, 5, 4, 5, 5, 6, 3, 4, 4, 5, 4, 5, 5, 6, 4, 5, 5, 6, 5, 6, 6, 7, 3, 4, 4, 5, 4, 5, 5, 6, 4, 5, 5, 6, 5, 6, 6, 7, 4, 5, 5, 6, 5, 6, 6, 7, 5, 6, 6, 7, 6, 7, 7, 8])).toArray } : ByteArray).data.toList[n]?.getD 0).toNat) = pc8 n := by decide +kernel
  have hs : ({ data := (([0, 1, 1, 2, 1, 2, 2, 3, 1, 2, 2, 3, 2, 3, 3, 4, 1, 2, 2, 3, 2, 3, 3, 4, 2, 3, 3, 4, 3, 4, 4, 5, 1, 2, 2, 3, 2, 3, 3, 4, 2, 3, 3, 4, 3, 4, 4, 5, 2, 3, 3, 4, 3, 4, 4, 5, 3, 4, 4, 5, 4, 5, 5, 6].append [1, 2, 2, 3, 2, 3, 3, 4, 2, 3, 3, 4, 3, 4, 4, 5, 2, 3, 3, 4, 3, 4, 4, 5, 3, 4, 4, 5, 4, 5, 5, 6, 2, 3, 3, 4, 3, 4, 4, 5, 3, 4, 4, 5, 4, 5, 5, 6, 3, 4, 4, 5, 4, 5, 5, 6, 4, 5, 5, 6, 5, 6, 6, 7]).append ([1, 2, 2, 3, 2, 3, 3, 4, 2, 3, 3, 4, 3, 4, 4, 5, 2, 3, 3, 4, 3, 4, 4, 5, 3, 4, 4, 5, 4, 5, 5, 6, 2, 3, 3, 4, 3, 4, 4, 5, 3, 4, 4, 5, 4, 5, 5, 6, 3, 4, 4, 5, 4, 5, 5, 6, 4, 5, 5, 6, 5, 6, 6, 7].append [2, 3, 3, 4, 3, 4, 4, 5, 3, 4, 4, 5, 4, 5, 5, 6, 3, 4, 4, 5, 4, 5, 5, 6, 4, 5, 5, 6, 5, 6, 6, 7, 3, 4, 4, 5, 4, 5, 5, 6, 4, 5, 5, 6, 5, 6, 6, 7, 4, 5, 5, 6, 5, 6, 6, 7, 5, 6, 6, 7, 6, 7, 7, 8])).toArray } : ByteArray).size = 256 := by decide +kernel
  refine cal_fn 10 mixed Tryz.func111 Tryz.ntmps111 Tryz.results111 rfl rfl rfl fun hw cx hx hq => ?_
  generalize ({ data := (([0, 1, 1, 2, 1, 2, 2, 3, 1, 2, 2, 3, 2, 3, 3, 4, 1, 2, 2, 3, 2, 3, 3, 4, 2, 3, 3, 4, 3, 4, 4, 5, 1, 2, 2, 3, 2, 3, 3, 4, 2, 3, 3, 4, 3, 4, 4, 5, 2, 3, 3, 4, 3, 4, 4, 5, 3, 4, 4, 5, 4, 5, 5, 6].append [1, 2, 2, 3, 2, 3, 3, 4, 2, 3, 3, 4, 3, 4, 4, 5, 2, 3, 3, 4, 3, 4, 4, 5, 3, 4, 4, 5, 4, 5, 5, 6, 2, 3, 3, 4, 3, 4, 4, 5, 3, 4, 4, 5, 4, 5, 5, 6, 3, 4, 4, 5, 4, 5, 5, 6, 4, 5, 5, 6, 5, 6, 6, 7]).append ([1, 2, 2, 3, 2, 3, 3, 4, 2, 3, 3, 4, 3, 4, 4, 5, 2, 3, 3, 4, 3, 4, 4, 5, 3, 4, 4, 5, 4, 5, 5, 6, 2, 3, 3, 4, 3, 4, 4, 5, 3, 4, 4, 5, 4, 5, 5, 6, 3, 4, 4, 5, 4, 5, 5, 6, 4, 5, 5, 6, 5, 6, 6, 7].append [2, 3, 3, 4, 3, 4, 4, 5, 3, 4, 4, 5, 4, 5, 5, 6, 3, 4, 4, 5, 4, 5, 5, 6, 4, 5, 5, 6, 5, 6, 6, 7, 3, 4, 4, 5, 4, 5, 5, 6, 4, 5, 5, 6, 5, 6, 6, 7, 4, 5, 5, 6, 5, 6, 6, 7, 5, 6, 6, 7, 6, 7, 7, 8])).toArray } : ByteArray) = s at tab hs ⊢
  obtain ⟨n, rfl⟩ := Int.eq_ofNat_of_zero_le h0.1
  have e1 : ((n : Int).fdiv (2 ^ min (Int.toNat 8) 16)).toNat = n / 256 := by
    have : (n : Int).fdiv (2 ^ min (Int.toNat 8) 16) = ((n / 256 : Nat) : Int) := by
      show (n : Int).fdiv 256 = _
      rw [Int.fdiv_eq_ediv_of_nonneg _ (by omega)]; omega
    rw [this, Int.toNat_natCast]
  have e1' : (n : Int).fdiv (2 ^ min (Int.toNat 8) 16) = ((n / 256 : Nat) : Int) := by
    show (n : Int).fdiv 256 = _
    rw [Int.fdiv_eq_ediv_of_nonneg _ (by omega)]; omega
  have e1q : (n : Int).fdiv (2 ^ min 8 16) = ((n / 256 : Nat) : Int) := e1'
  have e2 : bits .and .u16 (n : Int) 255 = ((n % 256 : Nat) : Int) := by
    rw [show (255 : Int) = ((255 : Nat) : Int) from rfl, u16_and_nat _ _ (by omega) (by omega)]
    have : n &&& 255 = n % 256 := Nat.and_two_pow_sub_one_eq_mod n 8
    rw [this]
  have t1 := tab (n / 256) (by omega)
  have t2 := tab (n % 256) (by omega)
  have hpc := pc_split (n := n) (by omega)
  have l1 : pc8 (n / 256) ≤ 8 := by unfold pc8; exact Nat.le_trans (List.length_filter_le _ _) (by simp)
  have l2 : pc8 (n % 256) ≤ 8 := by unfold pc8; exact Nat.le_trans (List.length_filter_le _ _) (by simp)
  have hwr : IntKind.u8.wrap ((pc8 (n / 256) : Int) + (pc8 (n % 256) : Int)) = ((pc n : Nat) : Int) := by
    rw [hpc]; unfold IntKind.wrap; simp only [IntKind.bits, IntKind.signed, Bool.false_and]; simp; omega
  repeat (first | (simp only [go_sem, Int.reduceLT, Int.reduceLE, Int.reduceEq, Int.reduceToNat, hs, e1', e1q, e2, t1, t2, hwr, Int.toNat_natCast]) | ((with_reducible refine And.intro ?_ ?_); omega) | ((with_reducible refine isWKr (id := 1) ?_); refine WK_drawAt 1 [[],[0],[0,1],[],[3],[3,4],[0,1,2,3,4,5],[0,1,2,3,4,5,6],[0,1,2,3,4,5,6,7]] (by kernel_rfl) ?_) )
  refine ret_same hq _ (.inl rfl) ?_
  simp [go_sem]
theorem count {H : List Blk} {f : Nat → Int} (hf : F12 f) : Cal Tryz.prog 88 [.a (rowL .u16 12 (f))] H fun v H' => v = .v (.int .i64 (dotsF f).length) ∧ H' = H := by
  refine cal_fn 15 mixed Tryz.func88 Tryz.ntmps88 Tryz.results88 rfl rfl rfl fun hw cx hx hq => ?_
  repeat ((simp only [go_sem, Int.reduceLT, Int.reduceLE, Int.reduceEq, Int.reduceToNat]) )
  refine WK_for (fun n : Nat => ⟨[.any, .any, .any, .v (.int .i64 (cntTo f n)), .any, .any, .a (rowL .u16 12 (f)), .v (.int .i64 n)] ++ junk 8, H⟩) (fun n => n ≤ 12) (fun n => 12 - n) 0 ?_ ?_ fun n hn => ?_
  · refine Weak.both (H := H) (L := [⟨rowL .u16 12 (f), 50, .fix⟩]) rfl ?_ (by simp [hx]) ?_ hw
    · simp [go_sem, cntTo_zero]
    · simp [go_sem]
  · simp
  rcases Int.lt_or_le (n : Int) 12 with hc | hc
  · have hj : n < 12 := by omega
    have hfj := hf n hj
    have hsucc := cntTo_succ hf hj
    have hle := cntTo_le f (n + 1)
    repeat (first | (simp only [go_sem, Int.reduceLT, Int.reduceLE, Int.reduceEq, Int.reduceToNat, hc, rowL_cel _ _ _ hj]) | ((with_reducible refine And.intro ?_ ?_); omega) | ((with_reducible refine isSK ?_); refine call_ret (onesCount16 (by omega)) ?_ ?_) )
    refine EK_again (n + 1) ?_ (by omega) (by omega)
    rw [hsucc]
    exact Weak.slots (by simp [go_sem])
  · have : n = 12 := by omega
    subst this
    repeat ((simp only [go_sem, Int.reduceLT, Int.reduceLE, Int.reduceEq, Int.reduceToNat, Int.not_lt.2 hc]) )
    refine ret_same hq _ (.inl rfl) ?_
    simp only [go_sem, cntTo_all]
def xorF (f g : Nat → Int) (j : Nat) : Int := bits .xor .u16 (f j) (g j)
theorem differ1 {H : List Blk} {x y : Int} : Cal Tryz.prog 110 [.v (.int .u16 x), .v (.int .u16 y)] H fun v H' => v = .v (.int .u16 (bits .xor .u16 x y)) ∧ H' = H := by
  refine cal_fn 6 mixed Tryz.func110 Tryz.ntmps110 Tryz.results110 rfl rfl rfl fun hw cx hx hq => ?_
  simp only [go_sem]
  refine ret_same hq _ (.inl rfl) ?_
  simp only [go_sem]
theorem differ {H : List Blk} {f g : Nat → Int} : Cal Tryz.prog 87 [.a (rowL .u16 12 (f)), .a (rowL .u16 12 (g))] H fun v H' => v = .a (rowL .u16 12 (xorF f g)) ∧ H' = H := by
  refine cal_fn 6 mixed Tryz.func87 Tryz.ntmps87 Tryz.results87 rfl rfl rfl fun hw cx hx hq => ?_
  repeat (first | (simp only [go_sem, Int.reduceLT, Int.reduceLE, Int.reduceEq, Int.reduceToNat, rowL_rep]) | ((with_reducible refine isSK ?_); refine call_ret (mix (h := xorF f g) fun j _ L => differ1) ?_ ?_) )
  refine ret_cut hq hw _ (.inl rfl) ?_
  simp only [go_sem]
theorem xorF_12 {f g : Nat → Int} (h : F12 f) (h2 : F12 g) : F12 (xorF f g) := fun j hj => by
  have a := h j hj
  have b := h2 j hj
  unfold xorF
  rw [u16_xor _ _ a.1 (by omega) b.1 (by omega)]
  have := Nat.xor_lt_two_pow (n := 12) (x := (f j).toNat) (y := (g j).toNat) (by omega) (by omega)
  omega
def jumpF (f g : Nat → Int) : Int := (dotsF (xorF f g)).length
theorem jumpF_le (f g : Nat → Int) : 0 ≤ jumpF f g ∧ jumpF f g ≤ 144 := by unfold jumpF; have := dotsF_le (xorF f g); omega
theorem jump {H : List Blk} {f g : Nat → Int} (hf : F12 f) (hg : F12 g) : Cal Tryz.prog 49 [.a (rowL .u16 12 (f)), .a (rowL .u16 12 (g))] H fun v H' => v = .v (.int .i64 (jumpF f g)) ∧ H' = H := by
  refine cal_fn 7 mixed Tryz.func49 Tryz.ntmps49 Tryz.results49 rfl rfl rfl fun hw cx hx hq => ?_
  repeat (first | (simp only [go_sem, Int.reduceLT, Int.reduceLE, Int.reduceEq, Int.reduceToNat]) | ((with_reducible refine isSK ?_); first | refine call_ret (differ) ?_ ?_ | refine call_ret (count (xorF_12 hf hg)) ?_ ?_) )
  refine ret_cut hq hw _ (.inl rfl) ?_
  simp only [go_sem, jumpF]
theorem l01Count {H : List Blk} {i off : Nat} {f : Nat → Int} {b : Blk} (h : At H i off (rowL .u16 12 (f)) b) (hf : R16 f) : Cal Tryz.prog 112 [.p i off] H fun v H' => v = .v (.int .i64 (dotsF f).length) ∧ H' = H := by
  refine cal_fn 5 mixed Tryz.func112 Tryz.ntmps112 Tryz.results112 rfl rfl rfl fun hw cx hx hq => ?_
  repeat (first | (simp only [go_sem, Int.reduceLT, Int.reduceLE, Int.reduceEq, Int.reduceToNat]) | ((with_reducible refine isSK ?_); refine call_ret (l01Dots h hf) ?_ ?_) )
  refine ret_cut hq hw _ (.inl rfl) ?_
  simp only [go_sem]
theorem l01Differ {H : List Blk} {i off j o2 : Nat} {f g : Nat → Int} {b b2 : Blk} (h : At H i off (rowL .u16 12 (f)) b) (h2 : At H j o2 (rowL .u16 12 (g)) b2) (hf : F12 f) (hg : F12 g) : Cal Tryz.prog 91 [.p i off, .p j o2] H fun v H' => v = .v (.int .i64 (jumpF f g)) ∧ H' = H := by
  refine cal_fn 24 mixed Tryz.func91 Tryz.ntmps91 Tryz.results91 rfl rfl rfl fun hw cx hx hq => ?_
  simp only [go_sem, rowL_rep]
  refine WK_for (fun n : Nat => ⟨[.p i off, .p j o2, .any, .any, .any, .p H.length 0, .v (.int .i64 n)] ++ junk 19, H ++ [⟨rowL .u16 12 (pfx (xorF f g) (fun _ => 0) n), 50, .fix⟩]⟩) (fun n => n ≤ 12) (fun n => 12 - n) 0 (Weak.slots ?_) ?_ fun n hn => ?_
  · simp [go_sem, pfx_zero]
  · simp
  rcases Int.lt_or_le (n : Int) 12 with hc | hc
  · have hj : n < 12 := by omega
    have l1 := h.len (by simp [go_sem])
    have l2 := h2.len (by simp [go_sem])
    simp only [go_sem] at l1 l2
    repeat (first | (simp only [go_sem, Int.reduceLT, Int.reduceLE, Int.reduceEq, Int.reduceToNat, hc, h.lt, h.get, h.live, h.cel hj, h2.lt, h2.get, h2.live, h2.cel hj]) | ((with_reducible refine And.intro ?_ ?_); omega) | ((with_reducible refine isWKr (id := 5) ?_); refine WK_drawAt 5 [[],[],[],[1],[1,2,3],[1,2,3,4],[],[],[6],[6,7,8],[6,7,8,9],[1,2,3,4,5,6,7,8,9,10],[0,1,2,3,4,5,6,7,8,9,10,11],[0,1,2,3,4,5,6,7,8,9,10,11,12]] (by kernel_rfl) ?_) )
    refine EK_again (n + 1) ?_ (by omega) (by omega)
    rw [wr_pfx .u16 (xorF f g) _ hj (show bits .xor .u16 (f n) (g n) = xorF f g n from rfl)]
    exact Weak.slots (by simp [go_sem])
  · have : n = 12 := by omega
    subst this
    repeat (first | (simp only [go_sem, Int.reduceLT, Int.reduceLE, Int.reduceEq, Int.reduceToNat, Int.not_lt.2 hc, pfx_all]) | ((with_reducible refine isSK ?_); refine call_ret (l01Count (At.mk0 rfl) (xorF_12 hf hg).r16) ?_ ?_) )
    refine ret_cut hq hw _ (.inl rfl) ?_
    simp only [go_sem, jumpF]
end Go.Proofs.YtaekjojblkhfdaaGreatDoor
namespace Go.Proofs.YtaekjojblkhfdaaGreatDoor
open Go Go.Sx
def pg (l : List (Nat → Int)) (i : Nat) : Nat → Int := l[i]?.getD zeroF
theorem pg_at {l : List (Nat → Int)} {i : Nat} (h : i < l.length) : pg l i = l[i] := by unfold pg; rw [List.getElem?_eq_getElem h]; rfl
def jmp (l : List (Nat → Int)) (i k : Nat) : Int := jumpF (pg l i) (pg l k)
theorem jmp_le (l : List (Nat → Int)) (i k : Nat) : 0 ≤ jmp l i k ∧ jmp l i k ≤ 144 := jumpF_le _ _
theorem okB_12 {l : List (Nat → Int)} (h : okB l = true) (hR : ∀ f ∈ l, R16 f) : ∀ f ∈ l, F12 f := fun f hf => okF_f12 (List.all_eq_true.1 (okB_iff.1 h).2 f hf) (hR f hf)
theorem pg_12 {l : List (Nat → Int)} (h : ∀ f ∈ l, F12 f) (i : Nat) : F12 (pg l i) := by
  unfold pg
  cases e : l[i]? with
  | none => intro j _; simp [zeroF]
  | some f => exact h f (List.mem_of_getElem? e)
theorem l04Jump {H : List Blk} {v : V} {l : List (Nat → Int)} {i k : Int} (h : Rd H v (rowL .u16 12) l) (h12 : ∀ f ∈ l, F12 f) (hi : 0 ≤ i ∧ i < l.length) (hk : 0 ≤ k ∧ k < l.length) :
    Cal Tryz.prog 55 [v, .v (.int .i64 i), .v (.int .i64 k)] H fun u H' => u = .v (.int .i64 (jmp l i.toNat k.toNat)) ∧ H' = H := by
  obtain ⟨b0, off, c, b, rfl, hat, hf⟩ := h.full (by omega)
  have ai := hat.el hz12 (show i.toNat < l.length by omega)
  have ak := hat.el hz12 (show k.toNat < l.length by omega)
  rw [← pg_at (show i.toNat < l.length by omega)] at ai
  rw [← pg_at (show k.toNat < l.length by omega)] at ak
  refine cal_fn 11 mixed Tryz.func55 Tryz.ntmps55 Tryz.results55 rfl rfl rfl fun hw cx hx hq => ?_
  repeat (first | (simp only [go_sem, Int.reduceLT, Int.reduceLE, Int.reduceEq, Int.reduceToNat]) | ((with_reducible refine And.intro ?_ ?_); omega) | ((with_reducible refine isSK ?_); refine call_ret (l01Differ ai ak (pg_12 h12 _) (pg_12 h12 _)) ?_ ?_) | ((with_reducible refine isWKr (id := 1) ?_); refine WK_drawUp 1 [[],[],[0,1],[],[],[3,4],[0,1,2,3,4,5],[0,1,2,3,4,5,6]] 6 (by kernel_rfl) ?_; dsimp only [List.take, List.drop]) )
  refine ret_same hq _ (.inl rfl) ?_
  simp [go_sem, jmp]
end Go.Proofs.YtaekjojblkhfdaaGreatDoor
