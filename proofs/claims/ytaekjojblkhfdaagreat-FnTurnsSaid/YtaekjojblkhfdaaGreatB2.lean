/- Contracts of functions of the translated program, by the walk. -/
import Derived.Test.YtaekjojblkhfdaaGreatT1
import Derived.Test.YtaekjojblkhfdaaGreatLD
set_option linter.unusedVariables false
set_option linter.unusedSimpArgs false
set_option maxRecDepth 8000
set_option maxHeartbeats 16000000
namespace Go.Proofs.YtaekjojblkhfdaaGreat
open Go Go.Sx
def okF (f : Nat → Int) : Bool := allN 12 fun j => decide (f j ≤ 4095)
theorem okF_iff (f : Nat → Int) : okF f = true ↔ ∀ j, j < 12 → f j ≤ 4095 := by simp [okF, allN_iff]
theorem l01Ok {H : List Blk} {i off : Nat} {f : Nat → Int} {b : Blk} (h : At H i off (rowL .u16 12 (f)) b) : Cal Tryz.prog 71 [.p i off] H fun v H' => v = .v (.bool (okF f)) ∧ H' = H := by
  refine cal_fn 13 mixed Tryz.func71 Tryz.ntmps71 Tryz.results71 rfl rfl rfl fun hw cx hx hq => ?_
  simp only [go_sem]
  refine WK_for (fun n : Nat => ⟨[.p i off, .any, .v (.bool false), .v (.int .i64 n), .any, .any, .any, .any, .any, .any, .any, .any, .any, .any], H⟩) (fun n => n ≤ 12 ∧ ∀ j, j < n → f j ≤ 4095) (fun n => 12 - n) 0 (Weak.slots ?_) ?_ fun n hn => ?_
  · simp [go_sem]
  · simp
  rcases Int.lt_or_le (n : Int) 12 with hc | hc
  · simp only [go_sem, h.get, h.live, h.cel (show n < 12 by omega), hc]
    have := h.len (by simp [go_sem])
    simp only [go_sem] at this
    repeat (refine And.intro (by omega) ?_)
    refine ⟨fun h2 => ?_, fun h2 => ?_⟩
    · refine ret_same hq _ (.inl rfl) ?_
      simp only [go_sem]
      have : okF f = false := by
        rw [Bool.eq_false_iff]; intro h3; have := (okF_iff f).1 h3 n (by omega); omega
      rw [this]
    · repeat (refine And.intro (by omega) ?_)
      refine EK_again (n + 1) (Weak.slots ?_) ⟨by omega, fun j hj => ?_⟩ (by omega)
      · simp [go_sem]
      · by_cases e : j = n
        · subst e; omega
        · exact hn.2 j (by omega)
  · simp only [go_sem, Int.not_lt.2 hc]
    refine ret_same hq _ (.inl rfl) ?_
    simp only [go_sem]
    have : n = 12 := by omega
    subst this
    rw [(okF_iff f).2 hn.2]

end Go.Proofs.YtaekjojblkhfdaaGreat
namespace Go.Proofs.YtaekjojblkhfdaaGreat
open Go Go.Sx
/-- slices.IndexFunc on numbers. -/
theorem indexFunc16 {H : List Blk} {i off m : Nat} {cap : Cap} {f : Nat → Int} {b : Blk} {p : Nat → Bool} {fn : Nat} {cs : List V} (h : At H i off (rowL .u16 m f) b) (h0 : 0 < m) (hm : m ≤ 9223372036854775806)
    (hp : ∀ j, j < m → ∀ L, Cal Tryz.prog fn (.v (.int .u16 (f j)) :: cs) (H ++ L) fun v H' => v = .v (.bool (p j)) ∧ H' = H ++ L) :
    Cal Tryz.prog 123 [.s i off m cap, .f fn cs] H fun v H' => v = .v (.int .i64 (idxF m p)) ∧ H' = H := by
  refine cal_fn 17 mixed Tryz.func123 Tryz.ntmps123 Tryz.results123 rfl rfl rfl fun hw cx hx hq => ?_
  simp only [go_sem]
  refine WK_for (fun n : Nat => ⟨[.s i off m cap, .f fn cs, .any, .any, .any, .any, .any, .v (.int .i64 m), .v (.int .i64 n)] ++ junk 10, H⟩) (fun n => n ≤ m ∧ ∀ j, j < n → p j = false) (fun n => m - n) 0 (Weak.slots ?_) ?_ fun n hn => ?_
  · simp [go_sem]
  · simp
  rcases Int.lt_or_le (n : Int) m with hc | hc
  · have hlen := h.len (by simp only [go_sem]; omega)
    simp only [go_sem] at hlen
    have hq' := hp n (by omega) []
    rw [List.append_nil] at hq'
    simp only [go_sem, hc, h.get, h.live, h.cel (show n < m by omega)]
    repeat (refine And.intro (by omega) ?_)
    refine call_ret hq' (by simp only [go_sem]) ?_
    simp only [go_sem]
    refine ⟨fun e => ?_, fun e => ?_⟩
    · refine ret_same hq _ (.inl rfl) ?_
      simp only [go_sem]
      rw [idxF_at (by omega) e hn.2]
    · repeat (refine And.intro (by omega) ?_)
      refine EK_again (n + 1) (Weak.slots (by simp [go_sem])) ⟨by omega, fun j hj => ?_⟩ (by omega)
      by_cases e2 : j = n
      · subst e2; exact e
      · exact hn.2 j (by omega)
  · simp only [go_sem, Int.not_lt.2 hc]
    refine ret_same hq _ (.inl rfl) ?_
    simp only [go_sem]
    have : n = m := by omega
    subst this
    rw [idxF_none hn.2]
theorem containsFunc16 {H : List Blk} {i off m : Nat} {cap : Cap} {f : Nat → Int} {b : Blk} {p : Nat → Bool} {fn : Nat} {cs : List V} (h : At H i off (rowL .u16 m f) b) (h0 : 0 < m) (hm : m ≤ 9223372036854775806)
    (hp : ∀ j, j < m → ∀ L, Cal Tryz.prog fn (.v (.int .u16 (f j)) :: cs) (H ++ L) fun v H' => v = .v (.bool (p j)) ∧ H' = H ++ L) :
    Cal Tryz.prog 112 [.s i off m cap, .f fn cs] H fun v H' => v = .v (.bool (anyN m p)) ∧ H' = H := by
  refine cal_fn 7 mixed Tryz.func112 Tryz.ntmps112 Tryz.results112 rfl rfl rfl fun hw cx hx hq => ?_
  simp only [go_sem]
  refine call_ret (indexFunc16 h h0 hm hp) (by simp only [go_sem]) ?_
  simp only [go_sem, idxF_nonneg]
  refine ret_same hq _ (.inl rfl) ?_
  simp only [go_sem]
/-- slices.IndexFunc on frames. -/
theorem indexFuncF {H : List Blk} {i off : Nat} {cap : Cap} {l : List (Nat → Int)} {b : Blk} {p : Nat → Bool} {fn : Nat} {cs : List V} (h : At H i off (l.flatMap (rowL .u16 12)) b) (hm : l.length ≤ 9223372036854775806)
    (hp : ∀ j (hj : j < l.length), ∀ L, Cal Tryz.prog fn (.a (rowL .u16 12 (l[j])) :: cs) (H ++ L) fun v H' => v = .v (.bool (p j)) ∧ H' = H ++ L) :
    Cal Tryz.prog 111 [.s i off l.length cap, .f fn cs] H fun v H' => v = .v (.int .i64 (idxF l.length p)) ∧ H' = H := by
  refine cal_fn 17 mixed Tryz.func111 Tryz.ntmps111 Tryz.results111 rfl rfl rfl fun hw cx hx hq => ?_
  simp only [go_sem]
  refine WK_for (fun n : Nat => ⟨[.s i off l.length cap, .f fn cs, .any, .any, .any, .any, .any, .v (.int .i64 l.length), .v (.int .i64 n)] ++ junk 10, H⟩) (fun n => n ≤ l.length ∧ ∀ j, j < n → p j = false) (fun n => l.length - n) 0 (Weak.slots ?_) ?_ fun n hn => ?_
  · simp [go_sem]
  · simp
  rcases Int.lt_or_le (n : Int) l.length with hc | hc
  · have hj : n < l.length := by omega
    have hlen := h.fits _ 12 (fun _ => rowL_length ..) hj (by omega)
    have hq' := hp n hj []
    rw [List.append_nil] at hq'
    simp only [go_sem, hc, h.get, h.live, h.elem _ 12 (fun _ => rowL_length ..) hj]
    repeat (refine And.intro (by omega) ?_)
    refine call_ret hq' (by simp only [go_sem]) ?_
    simp only [go_sem]
    refine ⟨fun e => ?_, fun e => ?_⟩
    · refine ret_same hq _ (.inl rfl) ?_
      simp only [go_sem]
      rw [idxF_at (by omega) e hn.2]
    · repeat (refine And.intro (by omega) ?_)
      refine EK_again (n + 1) (Weak.slots (by simp [go_sem])) ⟨by omega, fun j hj => ?_⟩ (by omega)
      by_cases e2 : j = n
      · subst e2; exact e
      · exact hn.2 j (by omega)
  · simp only [go_sem, Int.not_lt.2 hc]
    refine ret_same hq _ (.inl rfl) ?_
    simp only [go_sem]
    have : n = l.length := by omega
    subst this
    rw [idxF_none hn.2]
theorem containsFuncF {H : List Blk} {i off : Nat} {cap : Cap} {l : List (Nat → Int)} {b : Blk} {p : Nat → Bool} {fn : Nat} {cs : List V} (h : At H i off (l.flatMap (rowL .u16 12)) b) (hm : l.length ≤ 9223372036854775806)
    (hp : ∀ j (hj : j < l.length), ∀ L, Cal Tryz.prog fn (.a (rowL .u16 12 (l[j])) :: cs) (H ++ L) fun v H' => v = .v (.bool (p j)) ∧ H' = H ++ L) :
    Cal Tryz.prog 88 [.s i off l.length cap, .f fn cs] H fun v H' => v = .v (.bool (anyN l.length p)) ∧ H' = H := by
  refine cal_fn 7 mixed Tryz.func88 Tryz.ntmps88 Tryz.results88 rfl rfl rfl fun hw cx hx hq => ?_
  simp only [go_sem]
  refine call_ret (indexFuncF h hm hp) (by simp only [go_sem]) ?_
  simp only [go_sem, idxF_nonneg]
  refine ret_same hq _ (.inl rfl) ?_
  simp only [go_sem]

theorem validFrame1 {H : List Blk} {x : Int} : Cal Tryz.prog 113 [.v (.int .u16 x)] H fun v H' => v = .v (.bool (decide (4095 < x))) ∧ H' = H := by
  refine cal_fn 4 mixed Tryz.func113 Tryz.ntmps113 Tryz.results113 rfl rfl rfl fun hw cx hx hq => ?_
  simp only [go_sem]
  refine ret_same hq _ (.inl rfl) ?_
  simp only [go_sem]
theorem not_any_ok (f : Nat → Int) : (!anyN 12 fun j => decide (4095 < f j)) = okF f := by
  unfold okF; rw [not_anyN]; congr 1; funext j; rw [Bool.eq_iff_iff]; simp
theorem validFrame {H : List Blk} {f : Nat → Int} : Cal Tryz.prog 90 [.a (rowL .u16 12 (f))] H fun v H' => v = .v (.bool (okF f)) ∧ H' = H := by
  refine cal_fn 5 mixed Tryz.func90 Tryz.ntmps90 Tryz.results90 rfl rfl rfl fun hw cx hx hq => ?_
  simp only [go_sem]
  repeat (refine And.intro (by omega) ?_)
  refine call_ret (containsFunc16 (p := fun j => decide (4095 < f j)) (At.mk0 rfl) (by omega) (by omega) fun j _ L => validFrame1) (by simp only [go_sem]) ?_
  simp only [go_sem, not_any_ok]
  refine ret_cut hq hw _ (.inl rfl) ?_
  simp only [go_sem]
theorem areFrames1 {H : List Blk} {f : Nat → Int} : Cal Tryz.prog 89 [.a (rowL .u16 12 (f))] H fun v H' => v = .v (.bool (!okF f)) ∧ H' = H := by
  refine cal_fn 5 mixed Tryz.func89 Tryz.ntmps89 Tryz.results89 rfl rfl rfl fun hw cx hx hq => ?_
  simp only [go_sem]
  refine call_ret validFrame (by simp only [go_sem]) ?_
  simp only [go_sem]
  refine ret_cut hq hw _ (.inl rfl) ?_
  simp only [go_sem]
theorem not_any_all (l : List (Nat → Int)) : (!anyN l.length fun j => !okF (l[j]?.getD fun _ => 0)) = l.all okF := by
  unfold anyN
  rw [Bool.eq_iff_iff]
  simp only [Bool.not_eq_true', List.any_eq_false, List.mem_range, Bool.not_eq_true, List.all_eq_true]
  constructor
  · intro h x hx
    obtain ⟨j, hj, rfl⟩ := List.mem_iff_getElem.1 hx
    have := h j hj
    simpa [hj] using this
  · intro h j hj
    simp only [List.getElem?_eq_getElem hj, Option.getD_some]
    rw [h _ (List.getElem_mem hj)]; simp
theorem areFrames {H : List Blk} {i off : Nat} {cap : Cap} {l : List (Nat → Int)} {b : Blk} (h : At H i off (l.flatMap (rowL .u16 12)) b) (hm : l.length ≤ 9223372036854775806) :
    Cal Tryz.prog 67 [.s i off l.length cap] H fun v H' => v = .v (.bool (l.all okF)) ∧ H' = H := by
  refine cal_fn 5 mixed Tryz.func67 Tryz.ntmps67 Tryz.results67 rfl rfl rfl fun hw cx hx hq => ?_
  simp only [go_sem]
  refine call_ret (containsFuncF (p := fun j => !okF (l[j]?.getD fun _ => 0)) h hm fun j hj L => ?_) (by simp only [go_sem]) ?_
  · simp only [List.getElem?_eq_getElem hj, Option.getD_some]; exact areFrames1
  simp only [go_sem, not_any_all]
  refine ret_same hq _ (.inl rfl) ?_
  simp only [go_sem]

/-- (Frame).mix, whatever the rows are mixed by. -/
theorem mix {H : List Blk} {f g h : Nat → Int} {fn : Nat} {cs : List V} (hop : ∀ j, j < 12 → ∀ L, Cal Tryz.prog fn (.v (.int .u16 (f j)) :: .v (.int .u16 (g j)) :: cs) (H ++ L) fun v H' => v = .v (.int .u16 (h j)) ∧ H' = H ++ L) :
    Cal Tryz.prog 91 [.a (rowL .u16 12 (f)), .a (rowL .u16 12 (g)), .f fn cs] H fun v H' => v = .a (rowL .u16 12 (h)) ∧ H' = H := by
  refine cal_fn 21 mixed Tryz.func91 Tryz.ntmps91 Tryz.results91 rfl rfl rfl fun hw cx hx hq => ?_
  simp only [go_sem, rowL_rep]
  refine WK_for (fun n : Nat => ⟨[.a (rowL .u16 12 (f)), .a (rowL .u16 12 (g)), .f fn cs, .p H.length 0, .p (H.length + 1) 0, .any, .p (H.length + 2) 0, .any, .any, .a (rowL .u16 12 (f)), .v (.int .i64 n)] ++ junk 13, H ++ [⟨rowL .u16 12 (pfx h f n), 63, .fix⟩, ⟨rowL .u16 12 (g), 63, .fix⟩, ⟨rowL .u16 12 (fun _ => 0), 63, .fix⟩]⟩) (fun n => n ≤ 12) (fun n => 12 - n) 0 (Weak.slots ?_) ?_ fun n hn => ?_
  · simp [go_sem]
  · simp
  rcases Int.lt_or_le (n : Int) 12 with hc | hc
  · have hj : n < 12 := by omega
    simp only [go_sem, hc, rowL_cel _ _ _ hj]
    repeat (refine And.intro (by omega) ?_)
    refine call_ret (hop n hj _) (by simp only [go_sem]) ?_
    simp only [go_sem]
    repeat (refine And.intro (by omega) ?_)
    refine EK_again (n + 1) ?_ (by omega) (by omega)
    rw [wr_pfx .u16 h f hj rfl]
    exact Weak.slots (by simp [go_sem])
  · have : n = 12 := by omega
    subst this
    simp only [go_sem, Int.not_lt.2 hc, pfx_all]
    refine ret_cut hq hw _ (.inl rfl) ?_
    simp only [go_sem]
end Go.Proofs.YtaekjojblkhfdaaGreat
namespace Go.Proofs.YtaekjojblkhfdaaGreat
open Go Go.Sx
def joinF (f g : Nat → Int) (j : Nat) : Int := bits .or .u16 (f j) (g j)
def meetF (f g : Nat → Int) (j : Nat) : Int := bits .and .u16 (f j) (g j)
def mostF (f g h : Nat → Int) (j : Nat) : Int := bits .or .u16 (bits .or .u16 (bits .and .u16 (f j) (g j)) (bits .and .u16 (f j) (h j))) (bits .and .u16 (g j) (h j))
theorem join1 {H : List Blk} {x y : Int} : Cal Tryz.prog 99 [.v (.int .u16 x), .v (.int .u16 y)] H fun v H' => v = .v (.int .u16 (bits .or .u16 x y)) ∧ H' = H := by
  refine cal_fn 6 mixed Tryz.func99 Tryz.ntmps99 Tryz.results99 rfl rfl rfl fun hw cx hx hq => ?_
  simp only [go_sem]
  refine ret_same hq _ (.inl rfl) ?_
  simp only [go_sem]
theorem join {H : List Blk} {f g : Nat → Int} : Cal Tryz.prog 83 [.a (rowL .u16 12 (f)), .a (rowL .u16 12 (g))] H fun v H' => v = .a (rowL .u16 12 (joinF f g)) ∧ H' = H := by
  refine cal_fn 6 mixed Tryz.func83 Tryz.ntmps83 Tryz.results83 rfl rfl rfl fun hw cx hx hq => ?_
  simp only [go_sem, rowL_rep]
  repeat (refine And.intro (by omega) ?_)
  refine call_ret (mix (h := joinF f g) fun j _ L => join1) (by simp only [go_sem]) ?_
  simp only [go_sem]
  repeat (refine And.intro (by omega) ?_)
  refine ret_cut hq hw _ (.inl rfl) ?_
  simp only [go_sem]

theorem meet1 {H : List Blk} {x y : Int} : Cal Tryz.prog 98 [.v (.int .u16 x), .v (.int .u16 y)] H fun v H' => v = .v (.int .u16 (bits .and .u16 x y)) ∧ H' = H := by
  refine cal_fn 6 mixed Tryz.func98 Tryz.ntmps98 Tryz.results98 rfl rfl rfl fun hw cx hx hq => ?_
  simp only [go_sem]
  refine ret_same hq _ (.inl rfl) ?_
  simp only [go_sem]
theorem meet {H : List Blk} {f g : Nat → Int} : Cal Tryz.prog 82 [.a (rowL .u16 12 (f)), .a (rowL .u16 12 (g))] H fun v H' => v = .a (rowL .u16 12 (meetF f g)) ∧ H' = H := by
  refine cal_fn 6 mixed Tryz.func82 Tryz.ntmps82 Tryz.results82 rfl rfl rfl fun hw cx hx hq => ?_
  simp only [go_sem, rowL_rep]
  repeat (refine And.intro (by omega) ?_)
  refine call_ret (mix (h := meetF f g) fun j _ L => meet1) (by simp only [go_sem]) ?_
  simp only [go_sem]
  repeat (refine And.intro (by omega) ?_)
  refine ret_cut hq hw _ (.inl rfl) ?_
  simp only [go_sem]
theorem l04Most {H : List Blk} {i off j o2 i3 o3 : Nat} {f g e : Nat → Int} {b b2 b3 : Blk} (h : At H i off (rowL .u16 12 (f)) b) (h2 : At H j o2 (rowL .u16 12 (g)) b2) (h3 : At H i3 o3 (rowL .u16 12 (e)) b3) : Cal Tryz.prog 60 [.p i off, .p j o2, .p i3 o3] H fun v H' => v = .a (rowL .u16 12 (mostF f g e)) ∧ H' = H := by
  refine cal_fn 49 mixed Tryz.func60 Tryz.ntmps60 Tryz.results60 rfl rfl rfl fun hw cx hx hq => ?_
  simp only [go_sem, rowL_rep]
  refine WK_for (fun n : Nat => ⟨[.p i off, .p j o2, .p i3 o3, .any, .any, .any, .p H.length 0, .p (H.length + 1) 0, .v (.int .i64 n)] ++ junk 43, H ++ [⟨rowL .u16 12 (fun _ => 0), 63, .fix⟩, ⟨rowL .u16 12 (pfx (mostF f g e) (fun _ => 0) n), 63, .fix⟩]⟩) (fun n => n ≤ 12) (fun n => 12 - n) 0 (Weak.slots ?_) ?_ fun n hn => ?_
  · simp [go_sem]
  · simp
  rcases Int.lt_or_le (n : Int) 12 with hc | hc
  · have hj : n < 12 := by omega
    simp only [go_sem, hc]
    refine DK_all _ _ _ [[],[],[],[1],[1,2,3],[1,2,3,4],[],[],[6],[6,7,8],[6,7,8,9],[1,2,3,4,5,6,7,8,9,10],[],[],[12],[12,13,14],[12,13,14,15],[],[],[17],[17,18,19],[17,18,19,20],[12,13,14,15,16,17,18,19,20,21],[1,2,3,4,5,6,7,8,9,10,11,12,13,14,15,16,17,18,19,20,21,22],[],[],[24],[24,25,26],[24,25,26,27],[],[],[29],[29,30,31],[29,30,31,32],[24,25,26,27,28,29,30,31,32,33],[1,2,3,4,5,6,7,8,9,10,11,12,13,14,15,16,17,18,19,20,21,22,23,24,25,26,27,28,29,30,31,32,33,34],[0,1,2,3,4,5,6,7,8,9,10,11,12,13,14,15,16,17,18,19,20,21,22,23,24,25,26,27,28,29,30,31,32,33,34,35],[0,1,2,3,4,5,6,7,8,9,10,11,12,13,14,15,16,17,18,19,20,21,22,23,24,25,26,27,28,29,30,31,32,33,34,35,36]] (by kernel_rfl) ?_
    simp only [go_sem, h.lt, h.get, h.live, h.cel hj, h2.lt, h2.get, h2.live, h2.cel hj, h3.lt, h3.get, h3.live, h3.cel hj]
    have := h.len (by simp [go_sem])
    have := h2.len (by simp [go_sem])
    have := h3.len (by simp [go_sem])
    simp only [go_sem] at *
    repeat (refine And.intro (by omega) ?_)
    refine EK_again (n + 1) ?_ (by omega) (by omega)
    have hwr := wr_pfx .u16 (mostF f g e) (fun _ => 0) hj rfl
    simp only [mostF] at hwr
    rw [hwr]
    exact Weak.slots (by simp [go_sem])
  · have : n = 12 := by omega
    subst this
    simp only [go_sem, Int.not_lt.2 hc, pfx_all]
    refine ret_cut hq hw _ (.inl rfl) ?_
    simp only [go_sem]

end Go.Proofs.YtaekjojblkhfdaaGreat
namespace Go.Proofs.YtaekjojblkhfdaaGreat
open Go Go.Sx
theorem zeros_zero (zs : List V) : zerosL zs 0 = [] := rfl
theorem zeros_succ (zs : List V) (n : Nat) : zerosL zs (n + 1) = zs ++ zerosL zs n := rfl
attribute [go_sem] zeros_zero zeros_succ
theorem areFrames2 {H : List Blk} {i off : Nat} {cap : Cap} {f g : Nat → Int} {b : Blk} (h : At H i off (rowL .u16 12 (f) ++ rowL .u16 12 (g)) b) :
    Cal Tryz.prog 67 [.s i off 2 cap] H fun v H' => v = .v (.bool (okF f && okF g)) ∧ H' = H := by
  have := areFrames (l := [f, g]) (cap := cap) (by simpa using h) (by simp)
  simpa using this
end Go.Proofs.YtaekjojblkhfdaaGreat
namespace Go.Proofs.YtaekjojblkhfdaaGreat
open Go Go.Sx
theorem allEq_self (n : Nat) (f : Nat → Int) : allEq n f f = true := allEq_iff.2 fun _ _ => rfl
theorem most_eq (f g e : Nat → Int) : joinF (joinF (meetF f g) (meetF f e)) (meetF g e) = mostF f g e := rfl
theorem majority {H : List Blk} {f g e : Nat → Int} : Cal Tryz.prog 59 [.a (rowL .u16 12 (f)), .a (rowL .u16 12 (g)), .a (rowL .u16 12 (e))] H fun v H' => v = .a (rowL .u16 12 (mostF f g e)) ∧ H' = H := by
  refine cal_fn 15 mixed Tryz.func59 Tryz.ntmps59 Tryz.results59 rfl rfl rfl fun hw cx hx hq => ?_
  simp only [go_sem, rowL_rep]
  refine DK_all _ _ _ [[],[],[0,1],[],[],[0,1,2,3,4],[0,1,2,3,4,5],[],[],[0,1,2,3,4,5,6,7,8],[0,1,2,3,4,5,6,7,8,9],[0,1,2,3,4,5,6,7,8,9,10]] (by kernel_rfl) ?_
  simp only [go_sem]
  repeat (refine And.intro (by omega) ?_)
  refine mcall_ret meet (by simp only [go_sem]) (by simp only [go_sem]) ?_
  simp only [go_sem]
  repeat (refine And.intro (by omega) ?_)
  refine mcall_ret meet (by simp only [go_sem]) (by simp only [go_sem]) ?_
  simp only [go_sem]
  refine mcall_ret join (by simp only [go_sem]) (by simp only [go_sem]) ?_
  simp only [go_sem]
  repeat (refine And.intro (by omega) ?_)
  refine mcall_ret meet (by simp only [go_sem]) (by simp only [go_sem]) ?_
  simp only [go_sem]
  refine mcall_ret join (by simp only [go_sem]) (by simp only [go_sem]) ?_
  simp only [go_sem, most_eq]
  repeat (refine And.intro (by omega) ?_)
  refine ret_cut hq hw _ (.inl rfl) ?_
  simp only [go_sem]
end Go.Proofs.YtaekjojblkhfdaaGreat
namespace Go.Proofs.YtaekjojblkhfdaaGreat
open Go Go.Sx
theorem l00In {H : List Blk} {n lo hi : Int} : Cal Tryz.prog 80 [.v (.int .i64 n), .v (.int .i64 lo), .v (.int .i64 hi)] H fun v H' => v = .v (.bool (decide (lo ≤ n) && decide (n ≤ hi))) ∧ H' = H := by
  refine cal_fn 12 mixed Tryz.func80 Tryz.ntmps80 Tryz.results80 rfl rfl rfl fun hw cx hx hq => ?_
  by_cases h1 : lo ≤ n
  · simp only [go_sem, h1]
    refine ret_same hq _ (.inl rfl) ?_
    simp [go_sem, h1]
  · simp only [go_sem, h1]
    refine ret_same hq _ (.inl rfl) ?_
    simp [go_sem, h1]
theorem inRange {H : List Blk} {n lo hi : Int} : Cal Tryz.prog 68 [.v (.int .i64 n), .v (.int .i64 lo), .v (.int .i64 hi)] H fun v H' => v = .v (.bool (decide (lo ≤ n) && decide (n ≤ hi))) ∧ H' = H := by
  refine cal_fn 12 mixed Tryz.func68 Tryz.ntmps68 Tryz.results68 rfl rfl rfl fun hw cx hx hq => ?_
  by_cases h1 : lo ≤ n
  · simp only [go_sem, h1]
    refine ret_same hq _ (.inl rfl) ?_
    simp [go_sem, h1]
  · simp only [go_sem, h1]
    refine ret_same hq _ (.inl rfl) ?_
    simp [go_sem, h1]
theorem l01Place {H : List Blk} {a b : Int} : Cal Tryz.prog 97 [.v (.int .i64 a), .v (.int .i64 b)] H fun v H' => v = .v (.bool (placeB a b)) ∧ H' = H := by
  refine cal_fn 9 mixed Tryz.func97 Tryz.ntmps97 Tryz.results97 rfl rfl rfl fun hw cx hx hq => ?_
  simp only [go_sem]
  refine call_ret l00In (by simp only [go_sem]) ?_
  cases e : (decide (0 ≤ a) && decide (a ≤ 11))
  · simp only [go_sem]
    refine ret_same hq _ (.inl rfl) ?_
    simp [go_sem, placeB, e]
  · simp only [go_sem]
    refine call_ret l00In (by simp only [go_sem]) ?_
    simp only [go_sem]
    refine ret_same hq _ (.inl rfl) ?_
    simp [go_sem, placeB, e]
theorem l01Has {H : List Blk} {i off : Nat} {f : Nat → Int} {b : Blk} {a c : Int} (h : At H i off (rowL .u16 12 (f)) b) (hf : R16 f) : Cal Tryz.prog 81 [.p i off, .v (.int .i64 a), .v (.int .i64 c)] H fun v H' => v = .v (.bool (hasF f a c)) ∧ H' = H := by
  refine cal_fn 19 mixed Tryz.func81 Tryz.ntmps81 Tryz.results81 rfl rfl rfl fun hw cx hx hq => ?_
  simp only [go_sem]
  refine call_ret l01Place (by simp only [go_sem]) ?_
  cases e : placeB a c
  · simp only [go_sem]
    refine ret_same hq _ (.inl rfl) ?_
    simp [go_sem, hasF, e]
  · have e' := placeB_iff.1 e
    have hlen := h.len (by simp [go_sem])
    simp only [go_sem] at hlen
    have h16 := hf c.toNat (by omega)
    simp only [go_sem, h.get, h.live, h.cel (show c.toNat < 12 by omega)]
    have hwr : IntKind.u64.wrap a = a := wrap_u64 (by omega) (by omega)
    repeat (refine And.intro (by omega) ?_)
    refine ret_same hq _ (.inl rfl) ?_
    simp only [go_sem, hasF, e, shr_dot h16.1 e'.1.1 (by omega), dot]
/-- The cells of a dot, by its number. -/
def dotL (k : Nat) : List V := [.v (.int .i8 ((k % 12 : Nat) : Int)), .v (.int .i8 ((k / 12 : Nat) : Int))]
theorem dotL_len (k : Nat) : (dotL k).length = 2 := rfl
theorem wrap_i8 {x : Int} (h : -128 ≤ x) (h2 : x ≤ 127) : IntKind.i8.wrap x = x := by
  unfold IntKind.wrap
  simp only [IntKind.bits, IntKind.signed, Bool.true_and]
  split <;> rename_i hc <;> simp only [decide_eq_true_eq, ge_iff_le] at hc <;> omega
theorem dots_lts (m : Nat) (l : List Nat) : lts m (l.flatMap dotL) := by
  rw [lts_iff]; intro v hv
  obtain ⟨k, _, hk⟩ := List.mem_flatMap.1 hv
  simp [dotL] at hk
  rcases hk with rfl | rfl <;> rfl
theorem l01Dots {H : List Blk} {i off : Nat} {f : Nat → Int} {b : Blk} (h : At H i off (rowL .u16 12 (f)) b) (hf : R16 f) :
    Cal Tryz.prog 114 [.p i off] H fun v H' => v = .s H.length 0 (dotsF f).length (.u 0) ∧ H' = H ++ [⟨(dotsF f).flatMap dotL, 101, .own 2⟩] := by
  refine cal_fn 27 mixed Tryz.func114 Tryz.ntmps114 Tryz.results114 rfl rfl rfl fun hw cx hx hq => ?_
  simp only [go_sem]
  repeat (refine And.intro (by omega) ?_)
  refine WK_for (fun y : Nat => ⟨[.p i off, .any, .any, .s H.length 0 (dotsTo f (y * 12)).length (.u 0), .v (.int .i64 y)] ++ junk 23, H ++ [⟨(dotsTo f (y * 12)).flatMap dotL, 101, .own 2⟩]⟩) (fun y => y ≤ 12) (fun y => 12 - y) 0 (Weak.slots ?_) ?_ fun y hy => ?_
  · simp [go_sem, dotsTo]
  · simp
  rcases Int.lt_or_le (y : Int) 12 with hc | hc
  · simp only [go_sem, hc]
    refine WK_for (fun z : Nat => ⟨[.p i off, .any, .any, .s H.length 0 (dotsTo f (y * 12 + z)).length (.u 0), .v (.int .i64 y), .v (.int .i64 z)] ++ junk 22, H ++ [⟨(dotsTo f (y * 12 + z)).flatMap dotL, 101, .own 2⟩]⟩) (fun z => z ≤ 12) (fun z => 12 - z) 0 (Weak.slots ?_) ?_ fun z hz => ?_
    · simp [go_sem]
    · simp
    rcases Int.lt_or_le (z : Int) 12 with hc2 | hc2
    · simp only [go_sem, hc2]
      refine call_ret (l01Has h.app hf) (by simp only [go_sem]) ?_
      have hdot : hasF f z y = dot f z y := by simp [hasF, placeB]; omega
      have hk1 : (y * 12 + z) % 12 = z := by omega
      have hk2 : (y * 12 + z) / 12 = y := by omega
      have hsucc := dotsTo_succ f (y * 12 + z)
      rw [hk1, hk2] at hsucc
      have hlen := dotsTo_len f (y * 12 + z)
      cases e : dot f z y
      · rw [hdot, e]
        simp only [go_sem]
        repeat (refine And.intro (by omega) ?_)
        have e2 : dotsTo f (y * 12 + (z + 1)) = dotsTo f (y * 12 + z) := by rw [← Nat.add_assoc, hsucc, e]; simp
        refine EK_again (z + 1) ?_ (by omega) (by omega)
        simp only [e2]
        exact Weak.slots (by simp [go_sem])
      · rw [hdot, e]
        have e2 : dotsTo f (y * 12 + (z + 1)) = dotsTo f (y * 12 + z) ++ [y * 12 + z] := by rw [← Nat.add_assoc, hsucc, e]; simp
        have hl2 := flat_len dotL 2 dotL_len (dotsTo f (y * 12 + z))
        have hn : norefH H.length H := norefH_wf hw (Nat.le_refl _)
        have hn2 : norefs H.length ((dotsTo f (y * 12 + z)).flatMap dotL) = true := lts_norefs (Nat.le_refl _) _ (dots_lts _ _)
        have hij : (i = H.length) = False := eq_false (by have := h.lt; omega)
        simp only [go_sem, wrap_i8 (show (-128 : Int) ≤ z by omega) (by omega), wrap_i8 (show (-128 : Int) ≤ y by omega) (by omega), hl2, hn, hn2, hij, hx]
        repeat (refine And.intro (by omega) ?_)
        refine EK_again (z + 1) ?_ (by omega) (by omega)
        have e3 : (dotsTo f (y * 12 + z) ++ [y * 12 + z]).flatMap dotL = (dotsTo f (y * 12 + z)).flatMap dotL ++ [.v (.int .i8 z), .v (.int .i8 y)] := by
          rw [List.flatMap_append]; simp [dotL, hk1, hk2]
        simp only [e2, e3]
        refine Weak.both (H := H ++ [⟨(dotsTo f (y * 12 + z)).flatMap dotL ++ [.v (.int .i8 z), .v (.int .i8 y)], 101, .own 2⟩]) (L := [⟨[.v (.int .i8 z), .v (.int .i8 y)], 101, .own 2⟩]) ?_ ?_ ?_ ?_ (hw.one ?_)
        · simp
        · simp [go_sem]
        · simp [hx]
        · have := h.lt
          simp only [go_sem, List.length_append, List.length_cons, List.length_nil]
          omega
        · simp [go_sem, dots_lts]
    · have : z = 12 := by omega
      subst this
      simp only [go_sem, Int.not_lt.2 hc2]
      have e2 : y * 12 + 12 = (y + 1) * 12 := by omega
      repeat (refine And.intro (by omega) ?_)
      refine EK_again (y + 1) ?_ (by omega) (by omega)
      simp only [e2]
      exact Weak.slots (by simp [go_sem])
  · have : y = 12 := by omega
    subst this
    simp only [go_sem, Int.not_lt.2 hc]
    refine ret_at hq _ (.inl rfl) (by simp) ?_
    simp only [go_sem, dotsF]

theorem okF_f12 {f : Nat → Int} (h : okF f = true) (hf : R16 f) : F12 f := fun j hj => ⟨(hf j hj).1, (okF_iff f).1 h j hj⟩
theorem elem_dots {l : List Nat} {n : Nat} (hn : n < l.length) : cel (l.flatMap dotL) (n * 2) = .v (.int .i8 ((l[n] % 12 : Nat) : Int)) ∧ cel (l.flatMap dotL) (n * 2 + 1) = .v (.int .i8 ((l[n] / 12 : Nat) : Int)) := by
  have h := flat_seg dotL 2 dotL_len l n hn
  exact ⟨cel_of_seg (j := 0) h (by omega), cel_of_seg (j := 1) h (by omega)⟩
end Go.Proofs.YtaekjojblkhfdaaGreat
namespace Go.Proofs.YtaekjojblkhfdaaGreat
open Go Go.Sx
/-- slices.IndexFunc. -/
theorem indexFuncR {H : List Blk} {v : V} {l : List (Nat → Int)} {p : (Nat → Int) → Bool} {fn : Nat} {cs : List V} (h : Rd H v (rowL .u16 12) l) (hm : l.length ≤ 9223372036854775806)
    (hp : ∀ j (hj : j < l.length), ∀ L, Cal Tryz.prog fn (.a ((rowL .u16 12) l[j]) :: cs) (H ++ L) fun v H' => v = .v (.bool (p l[j])) ∧ H' = H ++ L) :
    Cal Tryz.prog 111 [v, .f fn cs] H fun u H' => u = .v (.int .i64 (idxL p l)) ∧ H' = H := by
  have hL := h.lenV (P := Tryz.prog) slTy24
  refine cal_fn 17 mixed Tryz.func111 Tryz.ntmps111 Tryz.results111 rfl rfl rfl fun hw cx hx hq => ?_
  simp only [go_sem, hL]
  refine WK_for (fun n : Nat => ⟨[v, .f fn cs, .any, .any, .any, .any, .any, .v (.int .i64 l.length), .v (.int .i64 n)] ++ junk 10, H⟩) (fun n => n ≤ l.length ∧ ∀ j (hj : j < l.length), j < n → p l[j] = false) (fun n => l.length - n) 0 (Weak.slots ?_) ?_ fun n hn => ?_
  · simp [go_sem]
  · simp
  rcases Int.lt_or_le (n : Int) l.length with hc | hc
  · have hj : n < l.length := by omega
    obtain ⟨i, off, c, bl, rfl, hat⟩ := h.row (by omega)
    have hfit := hat.fits (rowL .u16 12) 12 (fun _ => rowL_length ..) hj (by omega)
    have hq' := hp n hj []
    rw [List.append_nil] at hq'
    simp only [go_sem, hc, hat.get, hat.live, hat.elem (rowL .u16 12) 12 (fun _ => rowL_length ..) hj]
    repeat (refine And.intro (by omega) ?_)
    refine call_ret hq' (by simp only [go_sem]) ?_
    simp only [go_sem]
    refine ⟨fun e => ?_, fun e => ?_⟩
    · refine ret_same hq _ (.inl rfl) ?_
      simp only [go_sem]
      rw [idxL_at hj e hn.2]
    · repeat (refine And.intro (by omega) ?_)
      refine EK_again (n + 1) (Weak.slots (by simp [go_sem])) ⟨by omega, fun j hj2 hj3 => ?_⟩ (by omega)
      by_cases e2 : j = n
      · subst e2; exact e
      · exact hn.2 j hj2 (by omega)
  · simp only [go_sem, Int.not_lt.2 hc]
    refine ret_same hq _ (.inl rfl) ?_
    simp only [go_sem]
    rw [idxL_none fun j hj => hn.2 j hj (by omega)]
theorem containsFuncR {H : List Blk} {v : V} {l : List (Nat → Int)} {p : (Nat → Int) → Bool} {fn : Nat} {cs : List V} (h : Rd H v (rowL .u16 12) l) (hm : l.length ≤ 9223372036854775806)
    (hp : ∀ j (hj : j < l.length), ∀ L, Cal Tryz.prog fn (.a ((rowL .u16 12) l[j]) :: cs) (H ++ L) fun v H' => v = .v (.bool (p l[j])) ∧ H' = H ++ L) :
    Cal Tryz.prog 88 [v, .f fn cs] H fun u H' => u = .v (.bool (l.any p)) ∧ H' = H := by
  have hsol := h.solid
  refine cal_fn 7 mixed Tryz.func88 Tryz.ntmps88 Tryz.results88 rfl rfl rfl fun hw cx hx hq => ?_
  simp only [go_sem]
  refine call_ret (indexFuncR h hm hp) (by simp only [go_sem, hsol]) ?_
  simp only [go_sem, idxL_nonneg]
  refine ret_same hq _ (.inl rfl) ?_
  simp only [go_sem]


theorem areFramesR {H : List Blk} {v : V} {l : List (Nat → Int)} (h : Rd H v (rowL .u16 12) l) (hm : l.length ≤ 9223372036854775806) :
    Cal Tryz.prog 67 [v] H fun u H' => u = .v (.bool (l.all okF)) ∧ H' = H := by
  have hsol := h.solid
  refine cal_fn 5 mixed Tryz.func67 Tryz.ntmps67 Tryz.results67 rfl rfl rfl fun hw cx hx hq => ?_
  simp only [go_sem]
  refine call_ret (containsFuncR (p := fun f => !okF f) h hm fun j hj L => areFrames1) (by simp only [go_sem, hsol]) ?_
  simp only [go_sem, not_any_not]
  refine ret_same hq _ (.inl rfl) ?_
  simp only [go_sem]
def okB (l : List (Nat → Int)) : Bool := decide (l.length ≤ 40) && l.all okF
theorem okB_iff {l : List (Nat → Int)} : okB l = true ↔ l.length ≤ 40 ∧ l.all okF = true := by simp [okB]
theorem validBook {H : List Blk} {v : V} {l : List (Nat → Int)} (h : Rd H v (rowL .u16 12) l) (hm : l.length ≤ 9223372036854775806) :
    Cal Tryz.prog 37 [v] H fun u H' => u = .v (.bool (okB l)) ∧ H' = H := by
  have hsol := h.solid
  have hL := h.lenV (P := Tryz.prog) slTy25
  refine cal_fn 9 mixed Tryz.func37 Tryz.ntmps37 Tryz.results37 rfl rfl rfl fun hw cx hx hq => ?_
  simp only [go_sem, hL]
  by_cases e : l.length ≤ 40
  · have e' : (l.length : Int) ≤ 40 := by omega
    simp only [go_sem, e']
    refine call_ret (areFramesR h hm) (by simp only [go_sem, hsol]) ?_
    simp only [go_sem]
    refine ret_same hq _ (.inl rfl) ?_
    simp [go_sem, okB, e]
  · have e' : ¬ (l.length : Int) ≤ 40 := by omega
    simp only [go_sem, e']
    refine ret_same hq _ (.inl rfl) ?_
    simp [go_sem, okB, e]
theorem l02Ok {H : List Blk} {v : V} {l : List (Nat → Int)} (h : Rd H v (rowL .u16 12) l) (hm : l.length ≤ 9223372036854775806) :
    Cal Tryz.prog 46 [v] H fun u H' => u = .v (.bool (okB l)) ∧ H' = H := by
  have hsol := h.solid
  have hL := h.lenV (P := Tryz.prog) slTy25
  refine cal_fn 17 mixed Tryz.func46 Tryz.ntmps46 Tryz.results46 rfl rfl rfl fun hw cx hx hq => ?_
  simp only [go_sem]
  refine WK_for (fun n : Nat => ⟨[v, .any, .v (.bool false), .v (.int .i64 n)] ++ junk 14, H⟩) (fun n => n ≤ l.length ∧ ∀ j (hj : j < l.length), j < n → okF l[j] = true) (fun n => l.length - n) 0 (Weak.slots ?_) ?_ fun n hn => ?_
  · simp [go_sem]
  · simp
  rcases Int.lt_or_le (n : Int) l.length with hc | hc
  · have hj : n < l.length := by omega
    obtain ⟨i, off, c, bl, rfl, hat⟩ := h.row (by omega)
    have hfit := hat.fits (rowL .u16 12) 12 (fun _ => rowL_length ..) hj (by omega)
    have hatj : At H i (off + n * 12) (rowL .u16 12 l[n]) bl := ⟨hat.get, hat.live, by rw [rowL_length]; exact hat.elem (rowL .u16 12) 12 (fun _ => rowL_length ..) hj⟩
    simp only [go_sem, hc]
    repeat (refine And.intro (by omega) ?_)
    refine call_ret (l01Ok hatj) (by simp only [go_sem]) ?_
    simp only [go_sem]
    refine ⟨fun e => ?_, fun e => ?_⟩
    · refine ret_same hq _ (.inl rfl) ?_
      simp only [go_sem]
      have : okB l = false := by
        rw [Bool.eq_false_iff]; intro h2
        have := List.all_eq_true.1 (okB_iff.1 h2).2 _ (List.getElem_mem hj)
        rw [e] at this; cases this
      rw [this]
    · repeat (refine And.intro (by omega) ?_)
      refine EK_again (n + 1) (Weak.slots (by simp [go_sem])) ⟨by omega, fun j hj2 hj3 => ?_⟩ (by omega)
      by_cases e2 : j = n
      · subst e2; exact e
      · exact hn.2 j hj2 (by omega)
  · simp only [go_sem, hL, Int.not_lt.2 hc]
    refine ret_same hq _ (.inl rfl) ?_
    simp only [go_sem]
    have : l.all okF = true := List.all_eq_true.2 fun x hx => by
      obtain ⟨j, hj, rfl⟩ := List.mem_iff_getElem.1 hx
      exact hn.2 j hj (by omega)
    simp [okB, this]; omega
theorem isPage {H : List Blk} {v : V} {l : List (Nat → Int)} {p : Int} (h : Rd H v (rowL .u16 12) l) (hm : l.length ≤ 9223372036854775806) :
    Cal Tryz.prog 39 [v, .v (.int .i64 p)] H fun u H' => u = .v (.bool (decide (0 ≤ p) && decide (p ≤ l.length - 1))) ∧ H' = H := by
  have hL := h.lenV (P := Tryz.prog) slTy25
  refine cal_fn 8 mixed Tryz.func39 Tryz.ntmps39 Tryz.results39 rfl rfl rfl fun hw cx hx hq => ?_
  simp only [go_sem, hL]
  repeat (refine And.intro (by omega) ?_)
  refine call_ret inRange (by simp only [go_sem]) ?_
  simp only [go_sem]
  refine ret_same hq _ (.inl rfl) ?_
  simp only [go_sem]
def pageC (l : List (Nat → Int)) (p : Int) : Int := if okB l = true then (if (decide (0 ≤ p) && decide (p ≤ (l.length : Int) - 1)) = true then 0 else 2) else 1
theorem checkPage {H : List Blk} {v : V} {l : List (Nat → Int)} {p : Int} (h : Rd H v (rowL .u16 12) l) (hm : l.length ≤ 9223372036854775806) :
    Cal Tryz.prog 54 [v, .v (.int .i64 p)] H fun u H' => u = .v (.int .i64 (pageC l p)) ∧ H' = H := by
  have hsol := h.solid
  refine cal_fn 12 mixed Tryz.func54 Tryz.ntmps54 Tryz.results54 rfl rfl rfl fun hw cx hx hq => ?_
  simp only [go_sem]
  refine call_ret (validBook h hm) (by simp only [go_sem, hsol]) ?_
  cases e1 : okB l
  · simp only [go_sem]
    refine ret_same hq _ (.inl rfl) ?_
    simp [go_sem, pageC, e1]
  simp only [go_sem]
  refine call_ret (isPage h hm) (by simp only [go_sem, hsol]) ?_
  cases e2 : (decide (0 ≤ p) && decide (p ≤ (l.length : Int) - 1))
  · simp only [go_sem]
    refine ret_same hq _ (.inl rfl) ?_
    simp only [go_sem, pageC, e1, e2]
  · simp only [go_sem]
    refine ret_same hq _ (.inl rfl) ?_
    simp only [go_sem, pageC, e1, e2]
theorem l04Page {H : List Blk} {v : V} {l : List (Nat → Int)} {p : Int} (h : Rd H v (rowL .u16 12) l) (hm : l.length ≤ 9223372036854775806) :
    Cal Tryz.prog 57 [v, .v (.int .i64 p)] H fun u H' => u = .v (.int .i64 (pageC l p)) ∧ H' = H := by
  have hsol := h.solid
  have hL := h.lenV (P := Tryz.prog) slTy25
  refine cal_fn 12 mixed Tryz.func57 Tryz.ntmps57 Tryz.results57 rfl rfl rfl fun hw cx hx hq => ?_
  simp only [go_sem]
  refine call_ret (l02Ok h hm) (by simp only [go_sem, hsol]) ?_
  cases e1 : okB l
  · simp only [go_sem]
    refine ret_same hq _ (.inl rfl) ?_
    simp [go_sem, pageC, e1]
  simp only [go_sem, hL]
  repeat (refine And.intro (by omega) ?_)
  refine call_ret l00In (by simp only [go_sem]) ?_
  cases e2 : (decide (0 ≤ p) && decide (p ≤ (l.length : Int) - 1))
  · simp only [go_sem]
    refine ret_same hq _ (.inl rfl) ?_
    simp only [go_sem, pageC, e1, e2]
  · simp only [go_sem]
    refine ret_same hq _ (.inl rfl) ?_
    simp only [go_sem, pageC, e1, e2]
end Go.Proofs.YtaekjojblkhfdaaGreat
