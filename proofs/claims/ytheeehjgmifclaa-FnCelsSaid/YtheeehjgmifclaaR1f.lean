/- Contracts of functions of the translated program, by the walk. -/
import Derived.Test.YtheeehjgmifclaaR1e
import Derived.Test.YtheeehjgmifclaaLD
set_option linter.unusedVariables false
set_option linter.unusedSimpArgs false
set_option maxRecDepth 8000
set_option maxHeartbeats 4000000
namespace Go.Proofs.Ytheeehjgmifclaa
open Go Go.Sx
theorem l00In {H : List Blk} {n lo hi : Int} : Cal Try.prog 61 [.v (.int .i64 n), .v (.int .i64 lo), .v (.int .i64 hi)] H fun v H' => v = .v (.bool (decide (lo ≤ n) && decide (n ≤ hi))) ∧ H' = H := by
  refine cal_fn 12 mixed Try.func61 Try.ntmps61 Try.results61 rfl rfl rfl fun hw cx hx hq => ?_
  by_cases h1 : lo ≤ n
  · simp only [go_sem, h1]
    refine ret_same hq _ (.inl rfl) ?_
    simp [go_sem, h1]
  · simp only [go_sem, h1]
    refine ret_same hq _ (.inl rfl) ?_
    simp [go_sem, h1]
theorem inRange {H : List Blk} {n lo hi : Int} : Cal Try.prog 102 [.v (.int .i64 n), .v (.int .i64 lo), .v (.int .i64 hi)] H fun v H' => v = .v (.bool (decide (lo ≤ n) && decide (n ≤ hi))) ∧ H' = H := by
  refine cal_fn 12 mixed Try.func102 Try.ntmps102 Try.results102 rfl rfl rfl fun hw cx hx hq => ?_
  by_cases h1 : lo ≤ n
  · simp only [go_sem, h1]
    refine ret_same hq _ (.inl rfl) ?_
    simp [go_sem, h1]
  · simp only [go_sem, h1]
    refine ret_same hq _ (.inl rfl) ?_
    simp [go_sem, h1]
theorem l01Place {H : List Blk} {a b : Int} : Cal Try.prog 80 [.v (.int .i64 a), .v (.int .i64 b)] H fun v H' => v = .v (.bool (placeB a b)) ∧ H' = H := by
  refine cal_fn 9 mixed Try.func80 Try.ntmps80 Try.results80 rfl rfl rfl fun hw cx hx hq => ?_
  simp only [go_sem]
  refine call_ret l00In (by simp only [go_sem]) ?_
  cases e : (decide (0 ≤ a) && decide (a ≤ 11))
  · simp only [go_sem]
    refine ret_same hq _ (.inl rfl) ?_
    simp [go_sem, placeB, e]
  · simp only [go_sem]
    refine call_ret l00In (by simp only [go_sem]) ?_
    simp only [go_sem]
    refine ret_same hq _ (.inl rfl) ?_
    simp [go_sem, placeB, e]
theorem l01Has {H : List Blk} {i off : Nat} {f : Nat → Int} {b : Blk} {a c : Int} (h : At H i off (rowL .u16 12 (f)) b) (hf : R16 f) : Cal Try.prog 82 [.p i off, .v (.int .i64 a), .v (.int .i64 c)] H fun v H' => v = .v (.bool (hasF f a c)) ∧ H' = H := by
  refine cal_fn 19 mixed Try.func82 Try.ntmps82 Try.results82 rfl rfl rfl fun hw cx hx hq => ?_
  simp only [go_sem]
  refine call_ret l01Place (by simp only [go_sem]) ?_
  cases e : placeB a c
  · simp only [go_sem]
    refine ret_same hq _ (.inl rfl) ?_
    simp [go_sem, hasF, e]
  · have e' := placeB_iff.1 e
    have hlen := h.len (by simp [go_sem])
    simp only [go_sem] at hlen
    have h16 := hf c.toNat (by omega)
    simp only [go_sem, h.get, h.live, h.cel (show c.toNat < 12 by omega)]
    have hwr : IntKind.u64.wrap a = a := wrap_u64 (by omega) (by omega)
    repeat (refine And.intro (by omega) ?_)
    refine ret_same hq _ (.inl rfl) ?_
    simp only [go_sem, hasF, e, shr_dot h16.1 e'.1.1 (by omega), dot]
theorem l01Put {H : List Blk} {i : Nat} {f : Nat → Int} {t : TypeId} {k : BK} {a c : Int} (h : H[i]? = some ⟨rowL .u16 12 (f), t, k⟩) (hk : k.mut = true) (hl : k.live = true) (hf : R16 f) :
    Cal Try.prog 109 [.p i 0, .v (.int .i64 a), .v (.int .i64 c)] H fun v H' => v = .t [] ∧ H' = H.set i ⟨rowL .u16 12 (putF f a c), t, k⟩ := by
  refine cal_fn 19 mixed Try.func109 Try.ntmps109 Try.results109 rfl rfl rfl fun hw cx hx hq => ?_
  simp only [go_sem]
  refine call_ret l01Place (by simp only [go_sem]) ?_
  cases e : placeB a c
  · simp only [go_sem]
    refine ret_at hq _ (.inr rfl) (Nat.le_refl _) ?_
    simp only [go_sem, putF, e]
    all_goals simp [set_get h, retV]
  · have e' := placeB_iff.1 e
    have h16 := hf c.toNat (by omega)
    simp only [go_sem]
    refine DK_all _ _ _ [[],[],[],[],[2],[2,3,4],[2,3,4,5],[],[7],[7,8],[2,3,4,5,6,7,8,9],[0],[0,1,2,3,4,5,6,7,8,9,10,11],[0,1,2,3,4,5,6,7,8,9,10,11,12]] (by kernel_rfl) ?_
    simp only [go_sem, h, hl, hk, rowL_cel _ _ _ (show c.toNat < 12 by omega)]
    have hwr : IntKind.u64.wrap a = a := wrap_u64 (by omega) (by omega)
    repeat (refine And.intro (by omega) ?_)
    refine ret_at hq _ (.inr rfl) (by simp) ?_
    simp only [go_sem, putF, e, rowL_wr _ _ _ (show c.toNat < 12 by omega), or_dot h16.1 h16.2 e'.1.1 (show a ≤ 15 by omega)]
    all_goals simp [retV]

/-- The cells of a dot, by its number. -/
def dotL (k : Nat) : List V := [.v (.int .i8 ((k % 12 : Nat) : Int)), .v (.int .i8 ((k / 12 : Nat) : Int))]
theorem dotL_len (k : Nat) : (dotL k).length = 2 := rfl
theorem wrap_i8 {x : Int} (h : -128 ≤ x) (h2 : x ≤ 127) : IntKind.i8.wrap x = x := by
  unfold IntKind.wrap
  simp only [IntKind.bits, IntKind.signed, Bool.true_and]
  split <;> rename_i hc <;> simp only [decide_eq_true_eq, ge_iff_le] at hc <;> omega
theorem dots_lts (m : Nat) (l : List Nat) : lts m (l.flatMap dotL) := by
  rw [lts_iff]; intro v hv
  obtain ⟨k, _, hk⟩ := List.mem_flatMap.1 hv
  simp [dotL] at hk
  rcases hk with rfl | rfl <;> rfl
theorem l01Dots {H : List Blk} {i off : Nat} {f : Nat → Int} {b : Blk} (h : At H i off (rowL .u16 12 (f)) b) (hf : R16 f) :
    Cal Try.prog 120 [.p i off] H fun v H' => v = .s H.length 0 (dotsF f).length (.u 0) ∧ H' = H ++ [⟨(dotsF f).flatMap dotL, 148, .own 2⟩] := by
  refine cal_fn 27 mixed Try.func120 Try.ntmps120 Try.results120 rfl rfl rfl fun hw cx hx hq => ?_
  simp only [go_sem]
  repeat (refine And.intro (by omega) ?_)
  refine WK_for (fun y : Nat => ⟨[.p i off, .any, .any, .s H.length 0 (dotsTo f (y * 12)).length (.u 0), .v (.int .i64 y)] ++ junk 23, H ++ [⟨(dotsTo f (y * 12)).flatMap dotL, 148, .own 2⟩]⟩) (fun y => y ≤ 12) (fun y => 12 - y) 0 (Weak.slots ?_) ?_ fun y hy => ?_
  · simp [go_sem, dotsTo]
  · simp
  rcases Int.lt_or_le (y : Int) 12 with hc | hc
  · simp only [go_sem, hc]
    refine WK_for (fun z : Nat => ⟨[.p i off, .any, .any, .s H.length 0 (dotsTo f (y * 12 + z)).length (.u 0), .v (.int .i64 y), .v (.int .i64 z)] ++ junk 22, H ++ [⟨(dotsTo f (y * 12 + z)).flatMap dotL, 148, .own 2⟩]⟩) (fun z => z ≤ 12) (fun z => 12 - z) 0 (Weak.slots ?_) ?_ fun z hz => ?_
    · simp [go_sem]
    · simp
    rcases Int.lt_or_le (z : Int) 12 with hc2 | hc2
    · simp only [go_sem, hc2]
      refine call_ret (l01Has h.app hf) (by simp only [go_sem]) ?_
      have hdot : hasF f z y = dot f z y := by simp [hasF, placeB]; omega
      have hk1 : (y * 12 + z) % 12 = z := by omega
      have hk2 : (y * 12 + z) / 12 = y := by omega
      have hsucc := dotsTo_succ f (y * 12 + z)
      rw [hk1, hk2] at hsucc
      have hlen := dotsTo_len f (y * 12 + z)
      cases e : dot f z y
      · rw [hdot, e]
        simp only [go_sem]
        repeat (refine And.intro (by omega) ?_)
        have e2 : dotsTo f (y * 12 + (z + 1)) = dotsTo f (y * 12 + z) := by rw [← Nat.add_assoc, hsucc, e]; simp
        refine EK_again (z + 1) ?_ (by omega) (by omega)
        simp only [e2]
        exact Weak.slots (by simp [go_sem])
      · rw [hdot, e]
        have e2 : dotsTo f (y * 12 + (z + 1)) = dotsTo f (y * 12 + z) ++ [y * 12 + z] := by rw [← Nat.add_assoc, hsucc, e]; simp
        have hl2 := flat_len dotL 2 dotL_len (dotsTo f (y * 12 + z))
        have hn : norefH H.length H := norefH_wf hw (Nat.le_refl _)
        have hn2 : norefs H.length ((dotsTo f (y * 12 + z)).flatMap dotL) = true := lts_norefs (Nat.le_refl _) _ (dots_lts _ _)
        have hij : (i = H.length) = False := eq_false (by have := h.lt; omega)
        simp only [go_sem, wrap_i8 (show (-128 : Int) ≤ z by omega) (by omega), wrap_i8 (show (-128 : Int) ≤ y by omega) (by omega), hl2, hn, hn2, hij, hx]
        repeat (refine And.intro (by omega) ?_)
        refine EK_again (z + 1) ?_ (by omega) (by omega)
        have e3 : (dotsTo f (y * 12 + z) ++ [y * 12 + z]).flatMap dotL = (dotsTo f (y * 12 + z)).flatMap dotL ++ [.v (.int .i8 z), .v (.int .i8 y)] := by
          rw [List.flatMap_append]; simp [dotL, hk1, hk2]
        simp only [e2, e3]
        refine Weak.both (H := H ++ [⟨(dotsTo f (y * 12 + z)).flatMap dotL ++ [.v (.int .i8 z), .v (.int .i8 y)], 148, .own 2⟩]) (L := [⟨[.v (.int .i8 z), .v (.int .i8 y)], 148, .own 2⟩]) ?_ ?_ ?_ ?_ (hw.one ?_)
        · simp
        · simp [go_sem]
        · simp [hx]
        · have := h.lt
          simp only [go_sem, List.length_append, List.length_cons, List.length_nil]
          omega
        · simp [go_sem, dots_lts]
    · have : z = 12 := by omega
      subst this
      simp only [go_sem, Int.not_lt.2 hc2]
      have e2 : y * 12 + 12 = (y + 1) * 12 := by omega
      repeat (refine And.intro (by omega) ?_)
      refine EK_again (y + 1) ?_ (by omega) (by omega)
      simp only [e2]
      exact Weak.slots (by simp [go_sem])
  · have : y = 12 := by omega
    subst this
    simp only [go_sem, Int.not_lt.2 hc]
    refine ret_at hq _ (.inl rfl) (by simp) ?_
    simp only [go_sem, dotsF]

def wayC (f : Nat → Int) (e s : Int) : Int := if okF f = true then (if ((decide (-12 ≤ e) && decide (e ≤ 12)) && (decide (-12 ≤ s) && decide (s ≤ 12))) = true then 0 else 2) else 1
theorem l01Way {H : List Blk} {i off : Nat} {f : Nat → Int} {b : Blk} {e s : Int} (h : At H i off (rowL .u16 12 (f)) b) : Cal Try.prog 104 [.p i off, .v (.int .i64 e), .v (.int .i64 s)] H fun v H' => v = .v (.int .i64 (wayC f e s)) ∧ H' = H := by
  refine cal_fn 15 mixed Try.func104 Try.ntmps104 Try.results104 rfl rfl rfl fun hw cx hx hq => ?_
  simp only [go_sem]
  refine call_ret (l01Ok h) (by simp only [go_sem]) ?_
  cases e1 : okF f
  · simp only [go_sem]
    refine ret_same hq _ (.inl rfl) ?_
    simp [go_sem, wayC, e1]
  simp only [go_sem]
  refine call_ret l00In (by simp only [go_sem]) ?_
  cases e2 : (decide (-12 ≤ e) && decide (e ≤ 12))
  · simp only [go_sem]
    refine ret_same hq _ (.inl rfl) ?_
    simp only [go_sem, wayC, e1, e2]
  simp only [go_sem]
  refine call_ret l00In (by simp only [go_sem]) ?_
  cases e3 : (decide (-12 ≤ s) && decide (s ≤ 12))
  · simp only [go_sem]
    refine ret_same hq _ (.inl rfl) ?_
    simp only [go_sem, wayC, e1, e2, e3]
  · simp only [go_sem]
    refine ret_same hq _ (.inl rfl) ?_
    simp only [go_sem, wayC, e1, e2, e3]
theorem okF_f12 {f : Nat → Int} (h : okF f = true) (hf : R16 f) : F12 f := fun j hj => ⟨(hf j hj).1, (okF_iff f).1 h j hj⟩
theorem elem_dots {l : List Nat} {n : Nat} (hn : n < l.length) : cel (l.flatMap dotL) (n * 2) = .v (.int .i8 ((l[n] % 12 : Nat) : Int)) ∧ cel (l.flatMap dotL) (n * 2 + 1) = .v (.int .i8 ((l[n] / 12 : Nat) : Int)) := by
  have h := flat_seg dotL 2 dotL_len l n hn
  exact ⟨cel_of_seg (j := 0) h (by omega), cel_of_seg (j := 1) h (by omega)⟩
theorem l01Moved {H : List Blk} {i off : Nat} {f : Nat → Int} {b : Blk} {e s : Int} (h : At H i off (rowL .u16 12 (f)) b) (hf : R16 f) (he : -1000 ≤ e ∧ e ≤ 1000) (hs : -1000 ≤ s ∧ s ≤ 1000) :
    Cal Try.prog 117 [.p i off, .v (.int .i64 e), .v (.int .i64 s)] H fun v H' => v = .a (rowL .u16 12 (movedS f e s)) ∧ H' = H := by
  refine cal_fn 34 mixed Try.func117 Try.ntmps117 Try.results117 rfl rfl rfl fun hw cx hx hq => ?_
  simp only [go_sem, rowL_rep]
  refine call_ret (l01Dots h.app hf) (by simp only [go_sem]) ?_
  simp only [go_sem]
  let X : Nat → Int := fun k => ((k % 12 : Nat) : Int) + e
  let Y : Nat → Int := fun k => ((k / 12 : Nat) : Int) + s
  refine WK_for (fun n : Nat => ⟨[.p i off, .v (.int .i64 e), .v (.int .i64 s), .any, .any, .any, .p H.length 0, .p (H.length + 1) 0, .s (H.length + 2) 0 (dotsF f).length (.u 0), .v (.int .i64 n)] ++ junk 27, H ++ [⟨rowL .u16 12 (zeroF), 40, .fix⟩, ⟨rowL .u16 12 (putAll X Y ((dotsF f).take n) zeroF), 40, .fix⟩, ⟨(dotsF f).flatMap dotL, 148, .own 2⟩]⟩) (fun n => n ≤ (dotsF f).length) (fun n => (dotsF f).length - n) 0 (Weak.slots ?_) ?_ fun n hn => ?_
  · simp [go_sem]
  · simp
  rcases Int.lt_or_le (n : Int) (dotsF f).length with hc | hc
  · have hn2 : n < (dotsF f).length := by omega
    have hd := elem_dots hn2
    have hl2 := flat_len dotL 2 dotL_len (dotsF f)
    have h144 : (dotsF f).length ≤ 144 := dotsTo_len f 144
    have hk : (dotsF f)[n] < 144 := (mem_dotsF.1 (List.getElem_mem hn2)).1
    simp only [go_sem, hc]
    refine DK_some _ _ _ [[],[],[0,1],[0,1,2],[0,1,2,3],[0,1,2,3,4],[],[0,1,2,3,4,5,6],[],[],[8,9],[8,9,10],[8,9,10,11],[8,9,10,11,12],[],[8,9,10,11,12,13,14],[0,1,2,3,4,5,6,7,8,9,10,11,12,13,14,15]] 16 (by kernel_rfl) ?_; dsimp only [List.take, List.drop]
    simp only [go_sem, hd.1, hd.2, hl2]
    repeat (refine And.intro (by omega) ?_)
    have hr : R16 (putAll X Y ((dotsF f).take n) zeroF) := putAll_r16 _ _ _ _ zeroF_r16
    refine call_ret (l01Put (t := 40) (k := .fix) (by simp only [go_sem]) rfl rfl hr) (by simp only [go_sem]) ?_
    simp only [go_sem]
    repeat (refine And.intro (by omega) ?_)
    have e2 : putAll X Y ((dotsF f).take (n + 1)) zeroF = putF (putAll X Y ((dotsF f).take n) zeroF) (((dotsF f)[n] % 12 : Nat) + e) (((dotsF f)[n] / 12 : Nat) + s) := by
      rw [List.take_succ_eq_append_getElem hn2]
      unfold putAll; rw [List.foldl_append]; rfl
    refine EK_again (n + 1) ?_ (by omega) (by omega)
    simp only [e2]
    exact Weak.slots (by simp [go_sem])
  · have : n = (dotsF f).length := by omega
    subst this
    simp only [go_sem, Int.not_lt.2 hc]
    refine ret_cut hq hw _ (.inl rfl) ?_
    simp only [go_sem, List.take_length]
    rfl

theorem movI_at {f : Nat → Int} (hf : R16 f) {e s : Int} {j : Nat} (he : -12 ≤ e ∧ e ≤ 12) (h1 : 0 ≤ (j : Int) - s ∧ (j : Int) - s ≤ 11) (h2 : 0 ≤ e) :
    bits .and .u16 (IntKind.u16.wrap (f ((j : Int) - s).toNat * 2 ^ min e.toNat 16)) 4095 = movI f e s j := by
  have h := hf ((j : Int) - s).toNat (by omega)
  unfold movI
  rw [if_pos h1, if_pos h2, show min e.toNat 16 = e.toNat by omega]
  generalize f ((j : Int) - s).toNat = a at h
  obtain ⟨n, rfl⟩ := Int.eq_ofNat_of_zero_le h.1
  have e1 : (n : Int) * 2 ^ e.toNat = ((n * 2 ^ e.toNat : Nat) : Int) := by norm_cast
  rw [e1, Int.toNat_natCast]
  generalize n * 2 ^ e.toNat = m
  have e2 : IntKind.u16.wrap (m : Int) = ((m % 65536 : Nat) : Int) := by
    unfold IntKind.wrap
    simp only [IntKind.bits, IntKind.signed, Bool.false_and]
    simp
  rw [e2, show (4095 : Int) = ((4095 : Nat) : Int) from rfl, u16_and_nat _ _ (Nat.mod_lt _ (by omega)) (by omega)]
  have e3 : m % 65536 &&& 4095 = m % 65536 % 4096 := Nat.and_two_pow_sub_one_eq_mod (m % 65536) 12
  rw [e3, Nat.mod_mod_of_dvd _ (by decide)]
theorem movI_below {f : Nat → Int} (hf : R16 f) {e s : Int} {j : Nat} (he : -12 ≤ e ∧ e ≤ 12) (h1 : 0 ≤ (j : Int) - s ∧ (j : Int) - s ≤ 11) (h2 : ¬ 0 ≤ e) :
    (f ((j : Int) - s).toNat).fdiv (2 ^ min (0 - e).toNat 16) = movI f e s j := by
  have h := hf ((j : Int) - s).toNat (by omega)
  unfold movI
  rw [if_pos h1, if_neg h2, show min (0 - e).toNat 16 = (-e).toNat by omega]
  generalize f ((j : Int) - s).toNat = a at h
  obtain ⟨n, rfl⟩ := Int.eq_ofNat_of_zero_le h.1
  rw [Int.fdiv_eq_ediv_of_nonneg _ (by exact_mod_cast Nat.zero_le (2 ^ (-e).toNat))]
  norm_cast
theorem movI_off {f : Nat → Int} {e s : Int} {j : Nat} (h1 : ¬ (0 ≤ (j : Int) - s ∧ (j : Int) - s ≤ 11)) : movI f e s j = 0 := by
  unfold movI; rw [if_neg h1]
theorem pfx_same {h : Nat → Int} {n : Nat} (h0 : h n = 0) : pfx h zeroF (n + 1) = pfx h zeroF n := by
  funext j; unfold pfx zeroF
  rcases Nat.lt_trichotomy j n with e | e | e
  · rw [if_pos (by omega), if_pos e]
  · subst e; simp [h0]
  · rw [if_neg (by omega), if_neg (by omega)]
theorem moved {H : List Blk} {f : Nat → Int} {e s : Int} (hf : R16 f) (he : -12 ≤ e ∧ e ≤ 12) (hs : -1000 ≤ s ∧ s ≤ 1000) :
    Cal Try.prog 135 [.a (rowL .u16 12 (f)), .v (.int .i64 e), .v (.int .i64 s)] H fun v H' => v = .a (rowL .u16 12 (movI f e s)) ∧ H' = H := by
  refine cal_fn 41 mixed Try.func135 Try.ntmps135 Try.results135 rfl rfl rfl fun hw cx hx hq => ?_
  simp only [go_sem, rowL_rep]
  refine call_ret inRange (by simp only [go_sem]) ?_
  simp only [go_sem, he.1, he.2]
  refine WK_for (fun n : Nat => ⟨[.a (rowL .u16 12 (f)), .v (.int .i64 e), .v (.int .i64 s), .p H.length 0, .any, .any, .p (H.length + 1) 0, .p (H.length + 2) 0, .any, .any, .any, .any, .any, .any, .any, .v (.int .i64 n)] ++ junk 28, H ++ [⟨rowL .u16 12 (f), 40, .fix⟩, ⟨rowL .u16 12 (zeroF), 40, .fix⟩, ⟨rowL .u16 12 (pfx (movI f e s) zeroF n), 40, .fix⟩]⟩) (fun n => n ≤ 12) (fun n => 12 - n) 0 (Weak.slots ?_) ?_ fun n hn => ?_
  · simp [go_sem]
  · simp
  rcases Int.lt_or_le (n : Int) 12 with hc | hc
  · have hj : n < 12 := by omega
    simp only [go_sem, hc]
    repeat (refine And.intro (by omega) ?_)
    refine call_ret inRange (by simp only [go_sem]) ?_
    by_cases h1 : 0 ≤ (n : Int) - s ∧ (n : Int) - s ≤ 11
    · have hcel : cel (rowL .u16 12 f) ((n : Int) - s).toNat = .v (.int .u16 (f ((n : Int) - s).toNat)) := rowL_cel _ _ _ (by omega)
      simp only [go_sem, h1.1, h1.2]
      by_cases h2 : 0 ≤ e
      · simp only [go_sem, h2, hcel, movI_at hf he h1 h2]
        repeat (refine And.intro (by omega) ?_)
        refine EK_again (n + 1) ?_ (by omega) (by omega)
        rw [wr_pfx .u16 (movI f e s) _ hj rfl]
        exact Weak.slots (by simp [go_sem])
      · simp only [go_sem, h2, hcel, movI_below hf he h1 h2]
        repeat (refine And.intro (by omega) ?_)
        refine EK_again (n + 1) ?_ (by omega) (by omega)
        rw [wr_pfx .u16 (movI f e s) _ hj rfl]
        exact Weak.slots (by simp [go_sem])
    · have hb : (decide (0 ≤ (n : Int) - s) && decide ((n : Int) - s ≤ 11)) = false := by
        rw [Bool.eq_false_iff]; simp only [ne_eq, Bool.and_eq_true, decide_eq_true_eq]; exact h1
      simp only [hb]
      simp only [go_sem, Nat.reduceEqDiff]
      repeat (refine And.intro (by omega) ?_)
      refine EK_again (n + 1) ?_ (by omega) (by omega)
      rw [pfx_same (movI_off h1)]
      exact Weak.slots (by simp [go_sem])
  · have : n = 12 := by omega
    subst this
    simp only [go_sem, Int.not_lt.2 hc, pfx_all]
    refine ret_cut hq hw _ (.inl rfl) ?_
    simp only [go_sem]

end Go.Proofs.Ytheeehjgmifclaa

