/- Contracts of functions of the translated program, by the walk. -/
import Derived.Test.YtjkkallcgplgmaaLo1
import Derived.Test.YtjkkallcgplgmaaE2
import Derived.Test.YtjkkallcgplgmaaLD
set_option linter.unusedVariables false
set_option linter.unusedSimpArgs false
set_option maxRecDepth 8000
set_option maxHeartbeats 4000000
namespace Go.Proofs.Ytjkkallcgplgmaa
open Go Go.Sx
def fnd (o : List Int) (s : (Nat × Nat) × Int) : List Int := if s.2 = 0 then [] else turnL o s.1.1 s.1.2
theorem selR_one {L : List (Nat → Int)} {s : (Nat × Nat) × Int} (h : 0 ≤ s.2) (i : Nat) : selR L s i 1 = s := by
  unfold selR selR stpG
  rw [show i + 0 = i from rfl, gain_same, if_neg (by omega)]
theorem inO_plain (l : List (Nat → Int)) : inO l (plainL l.length) = l := by
  unfold inO plainL
  apply List.ext_getElem
  · simp
  · intro k h1 h2
    simp only [List.getElem_map, List.getElem_range, Int.toNat_natCast]
    exact pg_at h2
theorem okI_of {l : List (Nat → Int)} {o : List Int} (h : OrdP o l.length) : okI l o := fun k hk => h.2.1 k hk
theorem ord_turn {o : List Int} {n i k : Nat} (h : OrdP o n) (hi : i ≤ k + 1) : OrdP (turnL o i k) n := by
  have hp := turnL_perm o hi
  exact ⟨by rw [hp.length_eq]; exact h.1, fun x hx => h.2.1 x (hp.mem_iff.1 hx), hp.nodup_iff.2 h.2.2⟩
theorem plain_ordL (n : Nat) : OrdP (plainL n) n := by
  refine ⟨plainL_len n, fun k hk => ?_, ?_⟩
  · unfold plainL at hk
    obtain ⟨j, hj, rfl⟩ := List.mem_map.1 hk
    have := List.mem_range.1 hj
    omega
  · unfold plainL
    rw [List.Nodup, List.pairwise_map]
    exact (List.nodup_range (n := n)).imp fun h e => h (by omega)
theorem locN_ord {l : List (Nat → Int)} : ∀ (k : Nat) {o : List Int}, OrdP o l.length → OrdP (locN l k o) l.length
  | 0, o, h => h
  | k + 1, o, h => by
    unfold locN
    split
    · exact h
    · rename_i e
      have hs := selO_ok l o
      have h0 : 0 < (selO l o).2 := by have := hs.1; omega
      refine locN_ord k ?_
      unfold nextO
      exact ord_turn h (by have := (hs.2 h0).1; omega)
theorem locO_ord {l : List (Nat → Int)} {o : List Int} (h : OrdP o l.length) : OrdP (locO l o) l.length := locN_ord _ h
theorem specLocalOrder_ok {H : List Blk} {v : V} {l : List (Nat → Int)} (h : Rd H v (rowL .u16 12) l) (hok : okB l = true) (hR : ∀ f ∈ l, R16 f) :
    Cal Try.prog 38 [v] H fun u H' => u = .t [.s H.length 0 l.length (.u 0), .v (.int .i64 (allJ (inO l (locO l (plainL l.length))))), .v (.int .i64 0)] ∧ H' = H ++ [⟨(locO l (plainL l.length)).flatMap i64C, 2, .own 1⟩] := by
  have hsol := h.solid
  have hL := h.lenV (P := Try.prog) slTy27
  have h12 := okB_12 hok hR
  have h40 := (okB_iff.1 hok).1
  refine cal_fn 54 mixed Try.func38 Try.ntmps38 Try.results38 rfl rfl rfl fun hw cx hx hq => ?_
  repeat (first | (simp only [go_sem, Int.reduceLT, Int.reduceLE, Int.reduceEq, Int.reduceToNat, hsol, hL, hok]) | ((with_reducible refine And.intro ?_ ?_); omega) | ((with_reducible refine isSK ?_); first | (refine call_ret (l02Ok h (by omega)) (by simp only [go_sem, Int.reduceLT, Int.reduceLE, Int.reduceEq, Int.reduceToNat, hsol, hL, hok]) ?_) | (refine call_ret (l04Plain (n := l.length) (by omega)) (by simp only [go_sem, Int.reduceLT, Int.reduceLE, Int.reduceEq, Int.reduceToNat, hsol, hL, hok]) ?_) | (refine call_ret (l04All h.app h12 (by omega)) (by simp only [go_sem, Int.reduceLT, Int.reduceLE, Int.reduceEq, Int.reduceToNat, hsol, hL, hok]) ?_)) | ((with_reducible refine isMC ?_); first | (refine mcall_ret (l02Ok h (by omega)) (by simp only [go_sem, Int.reduceLT, Int.reduceLE, Int.reduceEq, Int.reduceToNat, hsol, hL, hok]) (by simp only [go_sem, Int.reduceLT, Int.reduceLE, Int.reduceEq, Int.reduceToNat, hsol, hL, hok]) ?_) | (refine mcall_ret (l04Plain (n := l.length) (by omega)) (by simp only [go_sem, Int.reduceLT, Int.reduceLE, Int.reduceEq, Int.reduceToNat, hsol, hL, hok]) (by simp only [go_sem, Int.reduceLT, Int.reduceLE, Int.reduceEq, Int.reduceToNat, hsol, hL, hok]) ?_) | (refine mcall_ret (l04All h.app h12 (by omega)) (by simp only [go_sem, Int.reduceLT, Int.reduceLE, Int.reduceEq, Int.reduceToNat, hsol, hL, hok]) (by simp only [go_sem, Int.reduceLT, Int.reduceLE, Int.reduceEq, Int.reduceToNat, hsol, hL, hok]) ?_)) | ((with_reducible refine And.intro ?_ ?_); first | (with_reducible rfl) | assumption | (simp only [go_sem]; done)))
  refine WK_for (fun o : List Int => ⟨[v, .any, .any, .any, .any, .s H.length 0 l.length (.u 0), .v (.int .i64 (allJ (inO l o)))] ++ junk 48, H ++ [⟨o.flatMap i64C, 2, .own 1⟩]⟩) (fun o => OrdP o l.length ∧ locO l o = locO l (plainL l.length)) (fun o => (allJ (inO l o)).toNat) (plainL l.length) (Weak.slots ?_) ⟨plain_ordL _, rfl⟩ fun o hq0 => ?_
  · simp [go_sem, inO_plain]
  obtain ⟨ho, hloc⟩ := hq0
  have hol := ho.1
  have hiL := inO_len l o
  have hi12 := inO_12 h12 o
  have hJ := allJ_range (inO l o)
  repeat (first | (simp only [go_sem, Int.reduceLT, Int.reduceLE, Int.reduceEq, Int.reduceToNat]) | ((with_reducible refine And.intro ?_ ?_); omega) | ((with_reducible refine And.intro ?_ ?_); first | (with_reducible rfl) | assumption | (simp only [go_sem]; done)))
  refine WK_for (fun i : Nat => ⟨[v, .any, .any, .any, .any, .s H.length 0 l.length (.u 0), .v (.int .i64 (allJ (inO l o) - (selA (inO l o) i).2)), .s (H.length + 1) 0 (fnd o (selA (inO l o) i)).length (.u 0), .v (.int .i64 i)] ++ junk 46, H ++ [⟨o.flatMap i64C, 2, .own 1⟩, ⟨(fnd o (selA (inO l o) i)).flatMap i64C, 2, .own 1⟩]⟩) (fun i => i ≤ l.length) (fun i => l.length - i) 0 (Weak.slots ?_) ?_ fun i hi => ?_
  · simp [go_sem, selA, fnd]
  · simp
  have hs0 := selA_ok (L := inO l o) i (by omega)
  rcases Int.lt_or_le (i : Int) l.length with hc | hc
  · have hci : ((i : Int) < (l.length : Int)) = True := eq_true hc
    repeat (first | (simp only [go_sem, Int.reduceLT, Int.reduceLE, Int.reduceEq, Int.reduceToNat, hL, hci]) | ((with_reducible refine And.intro ?_ ?_); omega) | ((with_reducible refine And.intro ?_ ?_); first | (with_reducible rfl) | assumption | (simp only [go_sem]; done)))
    refine WK_for (fun c : Nat => ⟨[v, .any, .any, .any, .any, .s H.length 0 l.length (.u 0), .v (.int .i64 (allJ (inO l o) - (selR (inO l o) (selA (inO l o) i) i (c + 1)).2)), .s (H.length + 1) 0 (fnd o (selR (inO l o) (selA (inO l o) i) i (c + 1))).length (.u 0), .v (.int .i64 i), .v (.int .i64 ((i : Int) + 1 + c))] ++ junk 45, H ++ [⟨o.flatMap i64C, 2, .own 1⟩, ⟨(fnd o (selR (inO l o) (selA (inO l o) i) i (c + 1))).flatMap i64C, 2, .own 1⟩]⟩) (fun c => i + 1 + c ≤ l.length) (fun c => l.length - c) 0 ?_ ?_ fun c hcc => ?_
    · simp only [Nat.zero_add, selR_one hs0.1]
      exact Weak.slots (by simp [go_sem])
    · omega
    have hs1 := selR_ok hs0 i (c + 1) (by omega)
    have hsucc : selR (inO l o) (selA (inO l o) i) i (c + 1 + 1) = stpG (inO l o) (selR (inO l o) (selA (inO l o) i) i (c + 1)) i (i + (c + 1)) := rfl
    have hfin : i + 1 + c = l.length → selA (inO l o) (i + 1) = selR (inO l o) (selA (inO l o) i) i (c + 1) := fun e => by
      rw [selA, hiL, hol]; congr 1; omega
    generalize hsg : selR (inO l o) (selA (inO l o) i) i (c + 1) = s at hs1 hsucc hfin ⊢
    rcases Int.lt_or_le ((i : Int) + 1 + c) l.length with hc3 | hc3
    · obtain ⟨k, hk⟩ : ∃ k : Nat, k = i + 1 + c := ⟨_, rfl⟩
      have hck : ((k : Int) < (l.length : Int)) = True := eq_true (by omega)
      have hke : (i : Int) + 1 + c = (k : Int) := by omega
      have hkl : k < o.length := by omega
      have htn := l04Turned (H := H ++ [⟨o.flatMap i64C, 2, .own 1⟩, ⟨(fnd o s).flatMap i64C, 2, .own 1⟩]) (bi := H.length) (l := o) (i := i) (k := k) (ty := 2) (by first | exact (Go.Sx.get_at0 _ _).trans rfl | exact (Go.Sx.get_at _ _ 1).trans rfl | exact (Go.Sx.get_at _ _ 2).trans rfl | exact (Go.Sx.get_at _ _ 3).trans rfl | exact (Go.Sx.get_at _ _ 4).trans rfl | exact (Go.Sx.get_at _ _ 5).trans rfl | exact (Go.Sx.get_at _ _ 6).trans rfl | exact (Go.Sx.get_at _ _ 7).trans rfl | exact (Go.Sx.get_at _ _ 8).trans rfl | exact (Go.Sx.get_at _ _ 9).trans rfl | exact (Go.Sx.get_at _ _ 10).trans rfl | exact (Go.Sx.get_at _ _ 11).trans rfl | exact (Go.Sx.get_at _ _ 12).trans rfl | exact (Go.Sx.get_at _ _ 13).trans rfl | exact (Go.Sx.get_at _ _ 14).trans rfl | exact (Go.Sx.get_at _ _ 15).trans rfl) (by omega) hkl (by omega)
      rw [hol] at htn
      have htl := turnL_len (l := o) (i := i) (k := k) (by omega) hkl
      have hot := ord_turn ho (i := i) (k := k) (by omega)
      have hpg := l04Pages (H := H ++ [⟨o.flatMap i64C, 2, .own 1⟩, ⟨(fnd o s).flatMap i64C, 2, .own 1⟩, ⟨(turnL o i k).flatMap i64C, 2, .own 1⟩]) h.app (Rd.own (c := .u 0) 2 rfl rfl (by rw [htl, hol])) (okI_of hot) (by omega)
      have hsum : allJ (inO l (turnL o i k)) = allJ (inO l o) - gainL (inO l o) i k := by rw [inO_turn, allJ_turn (by omega) (by omega)]
      have hg := gain_range (inO l o) i k
      have hsr : s.2 ≤ 288 := by
        rcases Int.lt_or_le 0 s.2 with e | e
        · have := (hs1.2 e).2.2
          have := gain_range (inO l o) s.1.1 s.1.2
          omega
        · omega
      have hil2 := inO_len l (turnL o i k)
      rw [show i + (c + 1) = k by omega] at hsucc
      rw [hke]
      by_cases e5 : s.2 < gainL (inO l o) i k
      · have e6 : (allJ (inO l o) - gainL (inO l o) i k < allJ (inO l o) - s.2) = True := eq_true (by omega)
        have hs2 : stpG (inO l o) s i k = ((i, k), gainL (inO l o) i k) := by unfold stpG; rw [if_pos e5]
        have hne : ¬ gainL (inO l o) i k = 0 := by have := hs1.1; omega
        have hf2 : fnd o ((i, k), gainL (inO l o) i k) = turnL o i k := by unfold fnd; rw [if_neg hne]
        repeat (first | (simp only [go_sem, Int.reduceLT, Int.reduceLE, Int.reduceEq, Int.reduceToNat, hsol, hL, hck, hke, hsum, e6]) | ((with_reducible refine And.intro ?_ ?_); omega) | ((with_reducible refine isSK ?_); first | (refine call_ret (htn) (by simp only [go_sem, Int.reduceLT, Int.reduceLE, Int.reduceEq, Int.reduceToNat, hsol, hL, hck, hke, hsum, e6]) ?_) | (refine call_ret (hpg) (by simp only [go_sem, Int.reduceLT, Int.reduceLE, Int.reduceEq, Int.reduceToNat, hsol, hL, hck, hke, hsum, e6]) ?_) | (refine call_ret (l04All (l := inO l (turnL o i k)) (Rd.own 3 rfl rfl rfl) (inO_12 h12 _) (by omega)) (by simp only [go_sem, Int.reduceLT, Int.reduceLE, Int.reduceEq, Int.reduceToNat, hsol, hL, hck, hke, hsum, e6]) ?_)) | ((with_reducible refine isMC ?_); first | (refine mcall_ret (htn) (by simp only [go_sem, Int.reduceLT, Int.reduceLE, Int.reduceEq, Int.reduceToNat, hsol, hL, hck, hke, hsum, e6]) (by simp only [go_sem, Int.reduceLT, Int.reduceLE, Int.reduceEq, Int.reduceToNat, hsol, hL, hck, hke, hsum, e6]) ?_) | (refine mcall_ret (hpg) (by simp only [go_sem, Int.reduceLT, Int.reduceLE, Int.reduceEq, Int.reduceToNat, hsol, hL, hck, hke, hsum, e6]) (by simp only [go_sem, Int.reduceLT, Int.reduceLE, Int.reduceEq, Int.reduceToNat, hsol, hL, hck, hke, hsum, e6]) ?_) | (refine mcall_ret (l04All (l := inO l (turnL o i k)) (Rd.own 3 rfl rfl rfl) (inO_12 h12 _) (by omega)) (by simp only [go_sem, Int.reduceLT, Int.reduceLE, Int.reduceEq, Int.reduceToNat, hsol, hL, hck, hke, hsum, e6]) (by simp only [go_sem, Int.reduceLT, Int.reduceLE, Int.reduceEq, Int.reduceToNat, hsol, hL, hck, hke, hsum, e6]) ?_)) | ((with_reducible refine And.intro ?_ ?_); first | (with_reducible rfl) | assumption | (simp only [go_sem]; done)))
        refine EK_again (c + 1) ?_ (by omega) (by omega)
        rw [hsucc, hs2, hf2, htl, hol]
        have e7 : (i : Int) + 1 + (c + 1 : Nat) = (k : Int) + 1 := by omega
        rw [e7]
        exact Weak.pickC [some 0, some 2] (by simp [go_sem, flat_i64.lts]) (by decide) (by simp [hx]) hw (by simp [go_sem, h.renC] <;> omega)
      · have e6 : (allJ (inO l o) - gainL (inO l o) i k < allJ (inO l o) - s.2) = False := eq_false (by omega)
        have hs2 : stpG (inO l o) s i k = s := by unfold stpG; rw [if_neg e5]
        repeat (first | (simp only [go_sem, Int.reduceLT, Int.reduceLE, Int.reduceEq, Int.reduceToNat, hsol, hL, hck, hke, hsum, e6]) | ((with_reducible refine And.intro ?_ ?_); omega) | ((with_reducible refine isSK ?_); first | (refine call_ret (htn) (by simp only [go_sem, Int.reduceLT, Int.reduceLE, Int.reduceEq, Int.reduceToNat, hsol, hL, hck, hke, hsum, e6]) ?_) | (refine call_ret (hpg) (by simp only [go_sem, Int.reduceLT, Int.reduceLE, Int.reduceEq, Int.reduceToNat, hsol, hL, hck, hke, hsum, e6]) ?_) | (refine call_ret (l04All (l := inO l (turnL o i k)) (Rd.own 3 rfl rfl rfl) (inO_12 h12 _) (by omega)) (by simp only [go_sem, Int.reduceLT, Int.reduceLE, Int.reduceEq, Int.reduceToNat, hsol, hL, hck, hke, hsum, e6]) ?_)) | ((with_reducible refine isMC ?_); first | (refine mcall_ret (htn) (by simp only [go_sem, Int.reduceLT, Int.reduceLE, Int.reduceEq, Int.reduceToNat, hsol, hL, hck, hke, hsum, e6]) (by simp only [go_sem, Int.reduceLT, Int.reduceLE, Int.reduceEq, Int.reduceToNat, hsol, hL, hck, hke, hsum, e6]) ?_) | (refine mcall_ret (hpg) (by simp only [go_sem, Int.reduceLT, Int.reduceLE, Int.reduceEq, Int.reduceToNat, hsol, hL, hck, hke, hsum, e6]) (by simp only [go_sem, Int.reduceLT, Int.reduceLE, Int.reduceEq, Int.reduceToNat, hsol, hL, hck, hke, hsum, e6]) ?_) | (refine mcall_ret (l04All (l := inO l (turnL o i k)) (Rd.own 3 rfl rfl rfl) (inO_12 h12 _) (by omega)) (by simp only [go_sem, Int.reduceLT, Int.reduceLE, Int.reduceEq, Int.reduceToNat, hsol, hL, hck, hke, hsum, e6]) (by simp only [go_sem, Int.reduceLT, Int.reduceLE, Int.reduceEq, Int.reduceToNat, hsol, hL, hck, hke, hsum, e6]) ?_)) | ((with_reducible refine And.intro ?_ ?_); first | (with_reducible rfl) | assumption | (simp only [go_sem]; done)))
        refine EK_again (c + 1) ?_ (by omega) (by omega)
        rw [hsucc, hs2]
        have e7 : (i : Int) + 1 + (c + 1 : Nat) = (k : Int) + 1 := by omega
        rw [e7]
        exact Weak.pickC [some 0, some 1] (by simp [go_sem, flat_i64.lts]) (by decide) (by simp [hx]) hw (by simp [go_sem, h.renC] <;> omega)
    · have hck : ((i : Int) + 1 + (c : Int) < (l.length : Int)) = False := eq_false (by omega)
      repeat (first | (simp only [go_sem, Int.reduceLT, Int.reduceLE, Int.reduceEq, Int.reduceToNat, hL, hck]) | ((with_reducible refine And.intro ?_ ?_); omega) | ((with_reducible refine And.intro ?_ ?_); first | (with_reducible rfl) | assumption | (simp only [go_sem]; done)))
      refine EK_again (i + 1) ?_ (by omega) (by omega)
      rw [hfin (by omega)]
      exact Weak.slots (by simp [go_sem])
  · have : i = l.length := by omega
    subst this
    have hci : ((l.length : Int) < (l.length : Int)) = False := eq_false (by omega)
    have hso : selA (inO l o) l.length = selO l o := by unfold selO; rw [hol]
    rw [hso] at hs0 ⊢
    by_cases hz : (selO l o).2 = 0
    · have hf0 : fnd o (selO l o) = [] := by unfold fnd; rw [if_pos hz]
      rw [hf0, hz]
      repeat (first | (simp only [go_sem, Int.reduceLT, Int.reduceLE, Int.reduceEq, Int.reduceToNat, hL, hci, List.length_nil, Int.natCast_zero]) | ((with_reducible refine And.intro ?_ ?_); omega) | ((with_reducible refine And.intro ?_ ?_); first | (with_reducible rfl) | assumption | (simp only [go_sem]; done)))
      have hlo := locO_end hz
      refine ret_one hq hw _ (.inl rfl) 0 rfl (by rw [flat_i64.lts]; trivial) (.t [.s H.length 0 l.length (.u 0), .v (.int .i64 (allJ (inO l (locO l (plainL l.length))))), .v (.int .i64 0)]) (by simp [go_sem] <;> rfl) ?_
      simp [go_sem, conc, concs, upσ, Cap.val, ← hloc, hlo]
    · have h0 : 0 < (selO l o).2 := by have := hs0.1; omega
      obtain ⟨g1, g2, g3⟩ := hs0.2 h0
      have hf1 : fnd o (selO l o) = nextO l o := by unfold fnd; rw [if_neg hz]; rfl
      have hnl : (nextO l o).length = l.length := by unfold nextO; rw [turnL_len (by omega) (by omega), hol]
      have hn0 : ((l.length : Int) = 0) = False := eq_false (by omega)
      have hnx := next_less hz
      have hnr := allJ_range (inO l (nextO l o))
      rw [hf1, hnl]
      repeat (first | (simp only [go_sem, Int.reduceLT, Int.reduceLE, Int.reduceEq, Int.reduceToNat, hL, hci, hn0]) | ((with_reducible refine And.intro ?_ ?_); omega) | ((with_reducible refine And.intro ?_ ?_); first | (with_reducible rfl) | assumption | (simp only [go_sem]; done)))
      refine EK_again (nextO l o) ?_ ⟨ord_turn ho (by omega), by rw [← hloc, locO_next hz]⟩ (by omega)
      rw [hnx.1]
      exact Weak.pickC [some 1] (by simp [go_sem, flat_i64.lts]) (by decide) (by simp [hx]) hw (by simp [go_sem, h.renC] <;> omega)
end Go.Proofs.Ytjkkallcgplgmaa

