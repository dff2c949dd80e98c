/- Contracts of functions of the translated program, by the walk. -/
import Derived.Test.YtheeehjgmifclaaR1f
set_option linter.unusedVariables false
set_option linter.unusedSimpArgs false
set_option maxRecDepth 8000
set_option maxHeartbeats 4000000
namespace Go.Proofs.Ytheeehjgmifclaa
open Go Go.Sx
/-- Four places beside a dot. -/
def put4 (o : Nat → Int) (k : Nat) : Nat → Int := putF (putF (putF (putF o (((k % 12 : Nat) : Int) - 1) ((k / 12 : Nat) : Int)) (((k % 12 : Nat) : Int) + 1) ((k / 12 : Nat) : Int)) ((k % 12 : Nat) : Int) (((k / 12 : Nat) : Int) - 1)) ((k % 12 : Nat) : Int) (((k / 12 : Nat) : Int) + 1)
def growS (f : Nat → Int) : Nat → Int := (dotsF f).foldl put4 f
def growI (f : Nat → Int) : Nat → Int := joinF (joinF (joinF (joinF f (movI f 1 0)) (movI f (-1) 0)) (movI f 0 1)) (movI f 0 (-1))
theorem put4_r16 {o : Nat → Int} (h : R16 o) (k : Nat) : R16 (put4 o k) := putF_fr (putF_fr (putF_fr (putF_fr h _ _) _ _) _ _) _ _
theorem fold4_r16 : ∀ (l : List Nat) (g : Nat → Int), R16 g → R16 (l.foldl put4 g)
  | [], _, h => h
  | _ :: l, _, h => fold4_r16 l _ (put4_r16 h _)
theorem joinF_r16 {f g : Nat → Int} (h : R16 f) (h2 : R16 g) : R16 (joinF f g) := fun j hj => by
  have a := h j hj
  have b := h2 j hj
  unfold joinF
  rw [u16_or _ _ a.1 a.2 b.1 b.2]
  have := or_lt (a := (f j).toNat) (b := (g j).toNat) (by omega) (by omega)
  omega
theorem dot_joinF {f g : Nat → Int} (h : R16 f) (h2 : R16 g) {x y : Nat} (hy : y < 12) : dot (joinF f g) x y = (dot f x y || dot g x y) := by
  have a := h y hy
  have b := h2 y hy
  unfold dot joinF
  rw [u16_or _ _ a.1 a.2 b.1 b.2, Int.toNat_natCast, Nat.testBit_or]
def nextTo (k a b : Nat) : Bool :=
  (placeB (((k % 12 : Nat) : Int) - 1) ((k / 12 : Nat) : Int) && (decide ((a : Int) = ((k % 12 : Nat) : Int) - 1) && decide ((b : Int) = ((k / 12 : Nat) : Int)))) ||
  ((placeB (((k % 12 : Nat) : Int) + 1) ((k / 12 : Nat) : Int) && (decide ((a : Int) = ((k % 12 : Nat) : Int) + 1) && decide ((b : Int) = ((k / 12 : Nat) : Int)))) ||
  ((placeB ((k % 12 : Nat) : Int) (((k / 12 : Nat) : Int) - 1) && (decide ((a : Int) = ((k % 12 : Nat) : Int)) && decide ((b : Int) = ((k / 12 : Nat) : Int) - 1))) ||
  (placeB ((k % 12 : Nat) : Int) (((k / 12 : Nat) : Int) + 1) && (decide ((a : Int) = ((k % 12 : Nat) : Int)) && decide ((b : Int) = ((k / 12 : Nat) : Int) + 1)))))
theorem dot_put4 (o : Nat → Int) (k a b : Nat) : dot (put4 o k) a b = (dot o a b || nextTo k a b) := by
  unfold put4 nextTo
  simp only [dot_putF, Bool.or_assoc]
theorem dot_fold4 (a b : Nat) : ∀ (l : List Nat) (g : Nat → Int), dot (l.foldl put4 g) a b = (dot g a b || l.any fun k => nextTo k a b)
  | [], g => by simp
  | k :: l, g => by rw [List.foldl_cons, dot_fold4 a b l, dot_put4, List.any_cons, Bool.or_assoc]
theorem grow_eq {f : Nat → Int} (h : F12 f) (k : IntKind) : rowL k 12 (growS f) = rowL k 12 (growI f) := by
  have r := h.r16
  have m1 := movI_r16 r 1 0
  have m2 := movI_r16 r (-1) 0
  have m3 := movI_r16 r 0 1
  have m4 := movI_r16 r 0 (-1)
  have j1 := joinF_r16 r m1
  have j2 := joinF_r16 j1 m2
  have j3 := joinF_r16 j2 m3
  apply rowL_ext
  refine dot_ext (fold4_r16 _ _ r) (joinF_r16 j3 m4) fun x y _ hy => ?_
  unfold growS growI
  rw [dot_fold4, dot_joinF j3 m4 hy, dot_joinF j2 m3 hy, dot_joinF j1 m2 hy, dot_joinF r m1 hy, dot_movI h hy, dot_movI h hy, dot_movI h hy, dot_movI h hy]
  simp only [Bool.or_assoc]
  congr 1
  rw [Bool.eq_iff_iff]
  simp only [List.any_eq_true, mem_dotsF, nextTo, Bool.or_eq_true, Bool.and_eq_true, decide_eq_true_eq, placeB_iff]
  constructor
  · rintro ⟨k, ⟨hk, hd⟩, h1⟩
    rcases h1 with ⟨hp, e1, e2⟩ | ⟨hp, e1, e2⟩ | ⟨hp, e1, e2⟩ | ⟨hp, e1, e2⟩
    · right; left
      have a1 : ((x : Int) - -1).toNat = k % 12 := by omega
      have a2 : ((y : Int) - 0).toNat = k / 12 := by omega
      refine ⟨by omega, by omega, ?_⟩
      rw [a1, a2]; exact hd
    · left
      have a1 : ((x : Int) - 1).toNat = k % 12 := by omega
      have a2 : ((y : Int) - 0).toNat = k / 12 := by omega
      refine ⟨by omega, by omega, ?_⟩
      rw [a1, a2]; exact hd
    · right; right; right
      have a1 : ((x : Int) - 0).toNat = k % 12 := by omega
      have a2 : ((y : Int) - -1).toNat = k / 12 := by omega
      refine ⟨by omega, by omega, ?_⟩
      rw [a1, a2]; exact hd
    · right; right; left
      have a1 : ((x : Int) - 0).toNat = k % 12 := by omega
      have a2 : ((y : Int) - 1).toNat = k / 12 := by omega
      refine ⟨by omega, by omega, ?_⟩
      rw [a1, a2]; exact hd
  · rintro (⟨h1, hp, hd⟩ | ⟨h1, hp, hd⟩ | ⟨h1, hp, hd⟩ | ⟨h1, hp, hd⟩)
    · refine ⟨12 * y + (x - 1), ⟨by omega, ?_⟩, .inr (.inl ⟨by omega, by omega, by omega⟩)⟩
      rw [show (12 * y + (x - 1)) % 12 = ((x : Int) - 1).toNat by omega, show (12 * y + (x - 1)) / 12 = ((y : Int) - 0).toNat by omega]; exact hd
    · refine ⟨12 * y + (x + 1), ⟨by omega, ?_⟩, .inl ⟨by omega, by omega, by omega⟩⟩
      rw [show (12 * y + (x + 1)) % 12 = ((x : Int) - -1).toNat by omega, show (12 * y + (x + 1)) / 12 = ((y : Int) - 0).toNat by omega]; exact hd
    · refine ⟨12 * (y - 1) + x, ⟨by omega, ?_⟩, .inr (.inr (.inr ⟨by omega, by omega, by omega⟩))⟩
      rw [show (12 * (y - 1) + x) % 12 = ((x : Int) - 0).toNat by omega, show (12 * (y - 1) + x) / 12 = ((y : Int) - 1).toNat by omega]; exact hd
    · refine ⟨12 * (y + 1) + x, ⟨by omega, ?_⟩, .inr (.inr (.inl ⟨by omega, by omega, by omega⟩))⟩
      rw [show (12 * (y + 1) + x) % 12 = ((x : Int) - 0).toNat by omega, show (12 * (y + 1) + x) / 12 = ((y : Int) - -1).toNat by omega]; exact hd
theorem l01Grow {H : List Blk} {i off : Nat} {f : Nat → Int} {b : Blk} (h : At H i off (rowL .u16 12 (f)) b) (hf : R16 f) :
    Cal Try.prog 124 [.p i off] H fun v H' => v = .a (rowL .u16 12 (growS f)) ∧ H' = H := by
  refine cal_fn 47 mixed Try.func124 Try.ntmps124 Try.results124 rfl rfl rfl fun hw cx hx hq => ?_
  have hl := h.len (by simp [go_sem])
  have hsg := h.sg
  simp only [go_sem] at hl hsg
  simp only [go_sem, rowL_rep, h.lt, h.get, h.live, hsg]
  repeat (refine And.intro (by omega) ?_)
  refine call_ret (l01Dots h.app hf) (by simp only [go_sem]) ?_
  simp only [go_sem]
  refine WK_for (fun n : Nat => ⟨[.p i off, .any, .p H.length 0, .p (H.length + 1) 0, .s (H.length + 2) 0 (dotsF f).length (.u 0), .v (.int .i64 n)] ++ junk 42, H ++ [⟨rowL .u16 12 (zeroF), 40, .fix⟩, ⟨rowL .u16 12 (((dotsF f).take n).foldl put4 f), 40, .fix⟩, ⟨(dotsF f).flatMap dotL, 148, .own 2⟩]⟩) (fun n => n ≤ (dotsF f).length) (fun n => (dotsF f).length - n) 0 (Weak.slots ?_) ?_ fun n hn => ?_
  · simp [go_sem]
  · simp
  rcases Int.lt_or_le (n : Int) (dotsF f).length with hc | hc
  · have hn2 : n < (dotsF f).length := by omega
    have hd := elem_dots hn2
    have hl2 := flat_len dotL 2 dotL_len (dotsF f)
    have h144 : (dotsF f).length ≤ 144 := dotsTo_len f 144
    have hk : (dotsF f)[n] < 144 := (mem_dotsF.1 (List.getElem_mem hn2)).1
    have hr : R16 (((dotsF f).take n).foldl put4 f) := fold4_r16 _ _ hf
    simp only [go_sem, hc, hd.1, hd.2, hl2]
    repeat (refine And.intro (by omega) ?_)
    refine call_ret (l01Put (t := 40) (k := .fix) (by simp only [go_sem]) rfl rfl hr) (by simp only [go_sem]) ?_
    simp only [go_sem]
    repeat (refine And.intro (by omega) ?_)
    refine call_ret (l01Put (t := 40) (k := .fix) (by simp only [go_sem]; rfl) rfl rfl (putF_fr hr _ _)) (by simp only [go_sem]) ?_
    simp only [go_sem]
    repeat (refine And.intro (by omega) ?_)
    refine call_ret (l01Put (t := 40) (k := .fix) (by simp only [go_sem]; rfl) rfl rfl (putF_fr (putF_fr hr _ _) _ _)) (by simp only [go_sem]) ?_
    simp only [go_sem]
    repeat (refine And.intro (by omega) ?_)
    refine call_ret (l01Put (t := 40) (k := .fix) (by simp only [go_sem]; rfl) rfl rfl (putF_fr (putF_fr (putF_fr hr _ _) _ _) _ _)) (by simp only [go_sem]) ?_
    simp only [go_sem]
    repeat (refine And.intro (by omega) ?_)
    have e2 : ((dotsF f).take (n + 1)).foldl put4 f = put4 (((dotsF f).take n).foldl put4 f) (dotsF f)[n] := by
      rw [List.take_succ_eq_append_getElem hn2, List.foldl_append]; rfl
    refine EK_again (n + 1) ?_ (by omega) (by omega)
    simp only [e2, put4]
    exact Weak.slots (by simp [go_sem])
  · have : n = (dotsF f).length := by omega
    subst this
    simp only [go_sem, Int.not_lt.2 hc]
    refine ret_cut hq hw _ (.inl rfl) ?_
    simp only [go_sem, List.take_length]
    rfl
end Go.Proofs.Ytheeehjgmifclaa

