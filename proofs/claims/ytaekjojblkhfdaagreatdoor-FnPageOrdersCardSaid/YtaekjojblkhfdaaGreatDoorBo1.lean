/- Contracts of functions of the translated program, by the walk. -/
import Derived.Test.YtaekjojblkhfdaaGreatDoorPl0
import Derived.Test.YtaekjojblkhfdaaGreatDoorC6
import Derived.Test.YtaekjojblkhfdaaGreatDoorLD
set_option linter.unusedVariables false
set_option linter.unusedSimpArgs false
set_option maxRecDepth 8000
set_option maxHeartbeats 16000000
namespace Go.Proofs.YtaekjojblkhfdaaGreatDoor
open Go Go.Sx
def turnP (l : List Int) (i k m : Nat) : List Int := l.take i ++ ((l.drop (k + 1 - m)).take m).reverse
theorem turnP_len {l : List Int} {i k m : Nat} (hi : i ≤ k) (hk : k < l.length) (hm : m ≤ k + 1 - i) : (turnP l i k m).length = i + m := by
  unfold turnP; simp; omega
theorem turnP_succ {l : List Int} {i k m : Nat} (hi : i ≤ k) (hk : k < l.length) (hm : m < k + 1 - i) : turnP l i k (m + 1) = turnP l i k m ++ [l[k - m]] := by
  unfold turnP
  have e : k + 1 - (m + 1) = k - m := by omega
  have e2 : k + 1 - m = k - m + 1 := by omega
  rw [e, e2, List.drop_eq_getElem_cons (show k - m < l.length by omega), List.take_succ_cons, List.reverse_cons, List.append_assoc]
theorem turnP_all {l : List Int} {i k : Nat} (hi : i ≤ k) (hk : k < l.length) : turnP l i k (k + 1 - i) ++ l.drop (k + 1) = turnL l i k := by
  unfold turnP turnL
  rw [show k + 1 - (k + 1 - i) = i by omega, List.append_assoc]
theorem l04Turned {H : List Blk} {bi : Nat} {l : List Int} {i k : Nat} {ty : TypeId} (hb : H[bi]? = some ⟨l.flatMap i64C, ty, .own 1⟩) (hik : i ≤ k) (hk : k < l.length) (hl : l.length ≤ 1000000) :
    Cal Tryz.prog 61 [.s bi 0 l.length (.u 0), .v (.int .i64 i), .v (.int .i64 k)] H fun u H' => u = .s H.length 0 l.length (.u 0) ∧ H' = H ++ [⟨(turnL l i k).flatMap i64C, 2, .own 1⟩] := by
  have hbl : bi < H.length := (List.getElem?_eq_some_iff.1 hb).1
  have hfl : (l.flatMap i64C).length = l.length := by rw [flat_i64.flen, Nat.mul_one]
  refine cal_fn 30 mixed Tryz.func61 Tryz.ntmps61 Tryz.results61 rfl rfl rfl fun hw cx hx hq => ?_
  have hn1 : norefH H.length H := norefH_wf hw (Nat.le_refl _)
  have hd1 : (H.length + 1 = H.length) = False := eq_false (by omega)
  have hd2 : (bi = H.length) = False := eq_false (by omega)
  repeat (first | (simp only [go_sem, Int.reduceLT, Int.reduceLE, Int.reduceEq, Int.reduceToNat, (get_app hb), hfl, hn1, hd1, hd2, hx, segI, List.drop_zero]) | ((with_reducible refine And.intro ?_ ?_); omega) )
  refine WK_for (fun m : Nat => ⟨[.s bi 0 l.length (.u 0), .v (.int .i64 i), .v (.int .i64 k), .any, .any, .any, .any, .s H.length 0 (i + m) (.u 0), .v (.int .i64 ((k : Int) - m))] ++ junk 24, H ++ [⟨(turnP l i k m).flatMap i64C, 2, .own 1⟩]⟩) (fun m => m ≤ k + 1 - i) (fun m => k + 1 - i - m) 0 ?_ ?_ fun m hm => ?_
  · rw [show turnP l i k 0 = l.take i by simp [turnP]]; exact Weak.slots (by simp [go_sem])
  · simp
  have hpl := turnP_len (l := l) hik hk hm
  have hl2 : ((turnP l i k m).flatMap i64C).length = i + m := by rw [flat_i64.flen, Nat.mul_one, hpl]
  have hn2 : norefs H.length ((turnP l i k m).flatMap i64C) = true := flat_i64.norefs _ _
  rcases Int.lt_or_le ((k : Int) - m) i with hc | hc
  · have : m = k + 1 - i := by omega
    subst this
    by_cases he : k + 1 = l.length
    · have e1 : ((k : Int) + 1 = (l.length : Int)) = True := eq_true (by omega)
      have e0 : (0 < (k : Int) + 1) = True := eq_true (by omega)
      repeat (first | (simp only [go_sem, Int.reduceLT, Int.reduceLE, Int.reduceEq, Int.reduceToNat, Int.not_le.2 hc, (get_app hb), hfl, hn1, hd1, hd2, hx, e0, e1, hl2, hn2]) | ((with_reducible refine And.intro ?_ ?_); omega) )
      refine ret_at hq _ (.inl rfl) (by simp) ?_
      have e2 : turnL l i k = turnP l i k (k + 1 - i) := by rw [← turnP_all hik hk, he, List.drop_length, List.append_nil]
      simp [go_sem, e2]
      omega
    · have e1 : ((k : Int) + 1 = (l.length : Int)) = False := eq_false (by omega)
      have t1 : ((k : Int) + 1).toNat = k + 1 := by omega
      have e0 : (0 < (k : Int) + 1) = True := eq_true (by omega)
      repeat (first | (simp only [go_sem, Int.reduceLT, Int.reduceLE, Int.reduceEq, Int.reduceToNat, Int.not_le.2 hc, (get_app hb), hfl, hn1, hd1, hd2, hx, e0, e1, hl2, hn2, t1, segI]) | ((with_reducible refine And.intro ?_ ?_); omega) )
      refine ret_at hq _ (.inl rfl) (by simp) ?_
      have e2 : (l.drop (k + 1)).take (l.length - (k + 1)) = l.drop (k + 1) := List.take_of_length_le (by simp)
      simp [go_sem, ← turnP_all hik hk, e2]
      omega
  · have t1 : ((k : Int) - m).toNat = k - m := by omega
    have hj : k - m < l.length := by omega
    have hcel := (At.mk0 (H := []) (L := []) (cs := l.flatMap i64C) (t := 0) (k := .own 1) rfl).i64 hj
    simp only [Nat.zero_add] at hcel
    have hs := turnP_succ hik hk (show m < k + 1 - i by omega)
    repeat (first | (simp only [go_sem, Int.reduceLT, Int.reduceLE, Int.reduceEq, Int.reduceToNat, hc, (get_app hb), hfl, hn1, hd1, hd2, hx, hl2, hn2, t1, hcel]) | ((with_reducible refine And.intro ?_ ?_); omega) )
    refine EK_again (m + 1) ?_ (by omega) (by omega)
    rw [hs, flat_snoc]
    exact Weak.keepN rfl (by simp [go_sem] <;> omega) (by simp [hx]) (by simp [go_sem, flat_i64.lts, i64C] <;> omega) (hw.app (by simp [go_sem, flat_i64.lts, i64C] <;> omega))
end Go.Proofs.YtaekjojblkhfdaaGreatDoor
namespace Go.Proofs.YtaekjojblkhfdaaGreatDoor
open Go Go.Sx
def fnd (o : List Int) (s : (Nat × Nat) × Int) : List Int := if s.2 = 0 then [] else turnL o s.1.1 s.1.2
theorem selR_one {L : List (Nat → Int)} {s : (Nat × Nat) × Int} (h : 0 ≤ s.2) (i : Nat) : selR L s i 1 = s := by
  unfold selR selR stpG
  rw [show i + 0 = i from rfl, gain_same, if_neg (by omega)]
theorem inO_plain (l : List (Nat → Int)) : inO l (plainL l.length) = l := by
  unfold inO plainL
  apply List.ext_getElem
  · simp
  · intro k h1 h2
    simp only [List.getElem_map, List.getElem_range, Int.toNat_natCast]
    exact pg_at h2
theorem okI_of {l : List (Nat → Int)} {o : List Int} (h : OrdP o l.length) : okI l o := fun k hk => h.2.1 k hk
theorem ord_turn {o : List Int} {n i k : Nat} (h : OrdP o n) (hi : i ≤ k + 1) : OrdP (turnL o i k) n := by
  have hp := turnL_perm o hi
  exact ⟨by rw [hp.length_eq]; exact h.1, fun x hx => h.2.1 x (hp.mem_iff.1 hx), hp.nodup_iff.2 h.2.2⟩
theorem plain_ordL (n : Nat) : OrdP (plainL n) n := by
  refine ⟨plainL_len n, fun k hk => ?_, ?_⟩
  · unfold plainL at hk
    obtain ⟨j, hj, rfl⟩ := List.mem_map.1 hk
    have := List.mem_range.1 hj
    omega
  · unfold plainL
    rw [List.Nodup, List.pairwise_map]
    exact (List.nodup_range (n := n)).imp fun h e => h (by omega)
theorem locN_ord {l : List (Nat → Int)} : ∀ (k : Nat) {o : List Int}, OrdP o l.length → OrdP (locN l k o) l.length
  | 0, o, h => h
  | k + 1, o, h => by
    unfold locN
    split
    · exact h
    · rename_i e
      have hs := selO_ok l o
      have h0 : 0 < (selO l o).2 := by have := hs.1; omega
      refine locN_ord k ?_
      unfold nextO
      exact ord_turn h (by have := (hs.2 h0).1; omega)
theorem locO_ord {l : List (Nat → Int)} {o : List Int} (h : OrdP o l.length) : OrdP (locO l o) l.length := locN_ord _ h
theorem specLocalOrder_ok {H : List Blk} {v : V} {l : List (Nat → Int)} (h : Rd H v (rowL .u16 12) l) (hok : okB l = true) (hR : ∀ f ∈ l, R16 f) :
    Cal Tryz.prog 16 [v] H fun u H' => u = .t [.s H.length 0 l.length (.u 0), .v (.int .i64 (allJ (inO l (locO l (plainL l.length))))), .v (.int .i64 0)] ∧ H' = H ++ [⟨(locO l (plainL l.length)).flatMap i64C, 2, .own 1⟩] := by
  have hsol := h.solid
  have hL := h.lenV (P := Tryz.prog) slTy25
  have h12 := okB_12 hok hR
  have h40 := (okB_iff.1 hok).1
  refine cal_fn 54 mixed Tryz.func16 Tryz.ntmps16 Tryz.results16 rfl rfl rfl fun hw cx hx hq => ?_
  repeat (first | (simp only [go_sem, Int.reduceLT, Int.reduceLE, Int.reduceEq, Int.reduceToNat, hsol, hL, hok]) | ((with_reducible refine isSK ?_); first | refine call_ret (l02Ok h (by omega)) ?_ ?_ | refine call_ret (l04Plain (n := l.length) (by omega)) ?_ ?_ | refine call_ret (l04All h.app h12 (by omega)) ?_ ?_) )
  refine WK_for (fun o : List Int => ⟨[v, .any, .any, .any, .any, .s H.length 0 l.length (.u 0), .v (.int .i64 (allJ (inO l o)))] ++ junk 48, H ++ [⟨o.flatMap i64C, 2, .own 1⟩]⟩) (fun o => OrdP o l.length ∧ locO l o = locO l (plainL l.length)) (fun o => (allJ (inO l o)).toNat) (plainL l.length) (Weak.slots ?_) ⟨plain_ordL _, rfl⟩ fun o hq0 => ?_
  · simp [go_sem, inO_plain]
  obtain ⟨ho, hloc⟩ := hq0
  have hol := ho.1
  have hiL := inO_len l o
  have hi12 := inO_12 h12 o
  have hJ := allJ_range (inO l o)
  repeat ((simp only [go_sem, Int.reduceLT, Int.reduceLE, Int.reduceEq, Int.reduceToNat]) )
  refine WK_for (fun i : Nat => ⟨[v, .any, .any, .any, .any, .s H.length 0 l.length (.u 0), .v (.int .i64 (allJ (inO l o) - (selA (inO l o) i).2)), .s (H.length + 1) 0 (fnd o (selA (inO l o) i)).length (.u 0), .v (.int .i64 i)] ++ junk 46, H ++ [⟨o.flatMap i64C, 2, .own 1⟩, ⟨(fnd o (selA (inO l o) i)).flatMap i64C, 2, .own 1⟩]⟩) (fun i => i ≤ l.length) (fun i => l.length - i) 0 (Weak.slots ?_) ?_ fun i hi => ?_
  · simp [go_sem, selA, fnd]
  · simp
  have hs0 := selA_ok (L := inO l o) i (by omega)
  rcases Int.lt_or_le (i : Int) l.length with hc | hc
  · have hci : ((i : Int) < (l.length : Int)) = True := eq_true hc
    repeat (first | (simp only [go_sem, Int.reduceLT, Int.reduceLE, Int.reduceEq, Int.reduceToNat, hL, hci]) | ((with_reducible refine And.intro ?_ ?_); omega) )
    refine WK_for (fun c : Nat => ⟨[v, .any, .any, .any, .any, .s H.length 0 l.length (.u 0), .v (.int .i64 (allJ (inO l o) - (selR (inO l o) (selA (inO l o) i) i (c + 1)).2)), .s (H.length + 1) 0 (fnd o (selR (inO l o) (selA (inO l o) i) i (c + 1))).length (.u 0), .v (.int .i64 i), .v (.int .i64 ((i : Int) + 1 + c))] ++ junk 45, H ++ [⟨o.flatMap i64C, 2, .own 1⟩, ⟨(fnd o (selR (inO l o) (selA (inO l o) i) i (c + 1))).flatMap i64C, 2, .own 1⟩]⟩) (fun c => i + 1 + c ≤ l.length) (fun c => l.length - c) 0 ?_ ?_ fun c hcc => ?_
    · simp only [Nat.zero_add, selR_one hs0.1]
      exact Weak.slots (by simp [go_sem])
    · omega
    have hs1 := selR_ok hs0 i (c + 1) (by omega)
    have hsucc : selR (inO l o) (selA (inO l o) i) i (c + 1 + 1) = stpG (inO l o) (selR (inO l o) (selA (inO l o) i) i (c + 1)) i (i + (c + 1)) := rfl
    have hfin : i + 1 + c = l.length → selA (inO l o) (i + 1) = selR (inO l o) (selA (inO l o) i) i (c + 1) := fun e => by
      rw [selA, hiL, hol]; congr 1; omega
    generalize hsg : selR (inO l o) (selA (inO l o) i) i (c + 1) = s at hs1 hsucc hfin ⊢
    rcases Int.lt_or_le ((i : Int) + 1 + c) l.length with hc3 | hc3
    · obtain ⟨k, hk⟩ : ∃ k : Nat, k = i + 1 + c := ⟨_, rfl⟩
      have hck : ((k : Int) < (l.length : Int)) = True := eq_true (by omega)
      have hke : (i : Int) + 1 + c = (k : Int) := by omega
      have hkl : k < o.length := by omega
      have htn := l04Turned (H := H ++ [⟨o.flatMap i64C, 2, .own 1⟩, ⟨(fnd o s).flatMap i64C, 2, .own 1⟩]) (bi := H.length) (l := o) (i := i) (k := k) (ty := 2) (by exact (Go.Sx.get_at0 _ _).trans rfl ) (by omega) hkl (by omega)
      rw [hol] at htn
      have htl := turnL_len (l := o) (i := i) (k := k) (by omega) hkl
      have hot := ord_turn ho (i := i) (k := k) (by omega)
      have hpg := l04Pages (H := H ++ [⟨o.flatMap i64C, 2, .own 1⟩, ⟨(fnd o s).flatMap i64C, 2, .own 1⟩, ⟨(turnL o i k).flatMap i64C, 2, .own 1⟩]) h.app (Rd.own (c := .u 0) 2 rfl rfl (by rw [htl, hol])) (okI_of hot) (by omega)
      have hsum : allJ (inO l (turnL o i k)) = allJ (inO l o) - gainL (inO l o) i k := by rw [inO_turn, allJ_turn (by omega) (by omega)]
      have hg := gain_range (inO l o) i k
      have hsr : s.2 ≤ 288 := by
        rcases Int.lt_or_le 0 s.2 with e | e
        · have := (hs1.2 e).2.2
          have := gain_range (inO l o) s.1.1 s.1.2
          omega
        · omega
      have hil2 := inO_len l (turnL o i k)
      rw [show i + (c + 1) = k by omega] at hsucc
      rw [hke]
      by_cases e5 : s.2 < gainL (inO l o) i k
      · have e6 : (allJ (inO l o) - gainL (inO l o) i k < allJ (inO l o) - s.2) = True := eq_true (by omega)
        have hs2 : stpG (inO l o) s i k = ((i, k), gainL (inO l o) i k) := by unfold stpG; rw [if_pos e5]
        have hne : ¬ gainL (inO l o) i k = 0 := by have := hs1.1; omega
        have hf2 : fnd o ((i, k), gainL (inO l o) i k) = turnL o i k := by unfold fnd; rw [if_neg hne]
        repeat (first | (simp only [go_sem, Int.reduceLT, Int.reduceLE, Int.reduceEq, Int.reduceToNat, hsol, hL, hck, hke, hsum, e6]) | ((with_reducible refine And.intro ?_ ?_); omega) | ((with_reducible refine isSK ?_); first | refine call_ret (htn) ?_ ?_ | refine call_ret (hpg) ?_ ?_ | refine call_ret (l04All (l := inO l (turnL o i k)) (Rd.own 3 rfl rfl rfl) (inO_12 h12 _) (by omega)) ?_ ?_) )
        refine EK_again (c + 1) ?_ (by omega) (by omega)
        rw [hsucc, hs2, hf2, htl, hol]
        have e7 : (i : Int) + 1 + (c + 1 : Nat) = (k : Int) + 1 := by omega
        rw [e7]
        exact Weak.pickC [some 0, some 2] (by simp [go_sem, flat_i64.lts]) (by decide) (by simp [hx]) hw (by simp [go_sem, h.renC] <;> omega)
      · have e6 : (allJ (inO l o) - gainL (inO l o) i k < allJ (inO l o) - s.2) = False := eq_false (by omega)
        have hs2 : stpG (inO l o) s i k = s := by unfold stpG; rw [if_neg e5]
        repeat (first | (simp only [go_sem, Int.reduceLT, Int.reduceLE, Int.reduceEq, Int.reduceToNat, hsol, hL, hck, hke, hsum, e6]) | ((with_reducible refine And.intro ?_ ?_); omega) | ((with_reducible refine isSK ?_); first | refine call_ret (htn) ?_ ?_ | refine call_ret (hpg) ?_ ?_ | refine call_ret (l04All (l := inO l (turnL o i k)) (Rd.own 3 rfl rfl rfl) (inO_12 h12 _) (by omega)) ?_ ?_) )
        refine EK_again (c + 1) ?_ (by omega) (by omega)
        rw [hsucc, hs2]
        have e7 : (i : Int) + 1 + (c + 1 : Nat) = (k : Int) + 1 := by omega
        rw [e7]
        exact Weak.pickC [some 0, some 1] (by simp [go_sem, flat_i64.lts]) (by decide) (by simp [hx]) hw (by simp [go_sem, h.renC] <;> omega)
    · have hck : ((i : Int) + 1 + (c : Int) < (l.length : Int)) = False := eq_false (by omega)
      repeat (first | (simp only [go_sem, Int.reduceLT, Int.reduceLE, Int.reduceEq, Int.reduceToNat, hL, hck]) | ((with_reducible refine And.intro ?_ ?_); omega) )
      refine EK_again (i + 1) ?_ (by omega) (by omega)
      rw [hfin (by omega)]
      exact Weak.slots (by simp [go_sem])
  · have : i = l.length := by omega
    subst this
    have hci : ((l.length : Int) < (l.length : Int)) = False := eq_false (by omega)
    have hso : selA (inO l o) l.length = selO l o := by unfold selO; rw [hol]
    rw [hso] at hs0 ⊢
    by_cases hz : (selO l o).2 = 0
    · have hf0 : fnd o (selO l o) = [] := by unfold fnd; rw [if_pos hz]
      rw [hf0, hz]
      repeat ((simp only [go_sem, Int.reduceLT, Int.reduceLE, Int.reduceEq, Int.reduceToNat, hL, hci, List.length_nil, Int.natCast_zero]) )
      have hlo := locO_end hz
      refine ret_one hq hw _ (.inl rfl) 0 rfl (by rw [flat_i64.lts]; trivial) (.t [.s H.length 0 l.length (.u 0), .v (.int .i64 (allJ (inO l (locO l (plainL l.length))))), .v (.int .i64 0)]) (by simp [go_sem] <;> rfl) ?_
      simp [go_sem, conc, concs, upσ, Cap.val, ← hloc, hlo]
    · have h0 : 0 < (selO l o).2 := by have := hs0.1; omega
      obtain ⟨g1, g2, g3⟩ := hs0.2 h0
      have hf1 : fnd o (selO l o) = nextO l o := by unfold fnd; rw [if_neg hz]; rfl
      have hnl : (nextO l o).length = l.length := by unfold nextO; rw [turnL_len (by omega) (by omega), hol]
      have hn0 : ((l.length : Int) = 0) = False := eq_false (by omega)
      have hnx := next_less hz
      have hnr := allJ_range (inO l (nextO l o))
      rw [hf1, hnl]
      repeat ((simp only [go_sem, Int.reduceLT, Int.reduceLE, Int.reduceEq, Int.reduceToNat, hL, hci, hn0]) )
      refine EK_again (nextO l o) ?_ ⟨ord_turn ho (by omega), by rw [← hloc, locO_next hz]⟩ (by omega)
      rw [hnx.1]
      exact Weak.pickC [some 1] (by simp [go_sem, flat_i64.lts]) (by decide) (by simp [hx]) hw (by simp [go_sem, h.renC] <;> omega)
end Go.Proofs.YtaekjojblkhfdaaGreatDoor
namespace Go.Proofs.YtaekjojblkhfdaaGreatDoor
open Go Go.Sx
def nbT (l : List (Nat → Int)) (now : Nat) (o : List Int) : Nat → Int
  | 0 => -1
  | k + 1 => if hasI o k = false ∧ (nbT l now o k < 0 ∨ jmp l now k < jmp l now (nbT l now o k).toNat) then (k : Int) else nbT l now o k
theorem nbT_range (l : List (Nat → Int)) (now : Nat) (o : List Int) : ∀ k, -1 ≤ nbT l now o k ∧ nbT l now o k < k
  | 0 => by simp [nbT]
  | k + 1 => by
    have := nbT_range l now o k
    unfold nbT; split <;> omega
theorem nbT_found {l : List (Nat → Int)} {now : Nat} {o : List Int} {j : Nat} (h : hasI o j = false) : ∀ k, j < k → 0 ≤ nbT l now o k
  | 0, hk => by omega
  | k + 1, hk => by
    by_cases e : j = k
    · subst e
      unfold nbT
      split
      · omega
      · rename_i h2
        by_cases e2 : nbT l now o j < 0
        · exact absurd ⟨h, .inl e2⟩ h2
        · omega
    · have ih := nbT_found (l := l) (now := now) h k (by omega)
      unfold nbT; split <;> omega
theorem pigeon : ∀ (n : Nat) (o : List Int), (∀ k : Nat, k < n → (k : Int) ∈ o) → n ≤ o.length
  | 0, _, _ => Nat.zero_le _
  | n + 1, o, h => by
    have h1 := h n (by omega)
    have h2 := pigeon n (o.erase n) fun k hk => (List.mem_erase_of_ne (by omega)).2 (h k (by omega))
    rw [List.length_erase_of_mem h1] at h2
    have := List.length_pos_of_mem h1
    omega
theorem nbT_ok {l : List (Nat → Int)} {now : Nat} {o : List Int} (h : o.length < l.length) : 0 ≤ nbT l now o l.length ∧ nbT l now o l.length < l.length := by
  refine ⟨?_, (nbT_range l now o l.length).2⟩
  apply Int.not_lt.1
  intro hn
  have := pigeon l.length o fun k hk => by
    apply hasI_iff.1
    cases e : hasI o k
    · have := nbT_found (l := l) (now := now) e l.length hk; omega
    · rfl
  omega
def noT (l : List (Nat → Int)) (p : Int) : Nat → List Int
  | 0 => [p]
  | n + 1 => noT l p n ++ [nbT l ((noT l p n)[n]?.getD 0).toNat (noT l p n) l.length]
theorem noT_len (l : List (Nat → Int)) (p : Int) : ∀ n, (noT l p n).length = n + 1
  | 0 => rfl
  | n + 1 => by unfold noT; rw [List.length_append, noT_len l p n]; rfl
theorem noT_ok {l : List (Nat → Int)} {p : Int} (hp : 0 ≤ p ∧ p < l.length) : ∀ n, n < l.length → okI l (noT l p n)
  | 0, _ => fun k hk => by simp [noT] at hk; omega
  | n + 1, hn => fun k hk => by
    unfold noT at hk
    rcases List.mem_append.1 hk with hk | hk
    · exact noT_ok hp n (by omega) k hk
    · simp only [List.mem_singleton] at hk
      have := nbT_ok (l := l) (now := ((noT l p n)[n]?.getD 0).toNat) (o := noT l p n) (by rw [noT_len]; exact hn)
      omega
def nowT (l : List (Nat → Int)) (p : Int) (n : Nat) : Nat := ((noT l p n)[n]?.getD 0).toNat
theorem nowT_lt {l : List (Nat → Int)} {p : Int} (hp : 0 ≤ p ∧ p < l.length) {n : Nat} (hn : n < l.length) : nowT l p n < l.length := by
  have hlen := noT_len l p n
  have := noT_ok hp n hn _ (List.getElem_mem (show n < (noT l p n).length by omega))
  unfold nowT
  rw [List.getElem?_eq_getElem (by omega)]
  simp only [Option.getD_some]; omega
theorem noT_succ (l : List (Nat → Int)) (p : Int) (n : Nat) : noT l p (n + 1) = noT l p n ++ [nbT l (nowT l p n) (noT l p n) l.length] := rfl
theorem noT_cel {l : List (Nat → Int)} {p : Int} (hp : 0 ≤ p ∧ p < l.length) {n : Nat} (hn : n < l.length) : cel ((noT l p n).flatMap i64C) n = .v (.int .i64 (nowT l p n)) := by
  have hlen := noT_len l p n
  have h0 := noT_ok hp n hn _ (List.getElem_mem (show n < (noT l p n).length by omega))
  have hcel := (At.mk0 (H := []) (L := []) (cs := (noT l p n).flatMap i64C) (t := 0) (k := .own 1) rfl).i64 (show n < (noT l p n).length by omega)
  simp only [Nat.zero_add] at hcel
  have e : (nowT l p n : Int) = (noT l p n)[n] := by
    unfold nowT
    rw [List.getElem?_eq_getElem (by omega)]
    simp only [Option.getD_some]; omega
  rw [e]; exact hcel
def lsT (l : List (Nat → Int)) (now : Nat) (b : Int) : Int := if b < 0 then 0 else jmp l now b.toNat
def noL (l : List (Nat → Int)) (p : Int) : List Int := noT l p (l.length - 1)
theorem pageC_ok {l : List (Nat → Int)} {p : Int} (h : pageC l p = 0) : okB l = true ∧ 0 ≤ p ∧ p < l.length := by
  unfold pageC at h
  split at h
  · rename_i e
    split at h
    · rename_i h2; simp at h2; exact ⟨e, by omega, by omega⟩
    · cases h
  · cases h
theorem implNearestOrder_ok {H : List Blk} {v : V} {l : List (Nat → Int)} {p : Int} (h : Rd H v (rowL .u16 12) l) (hR : ∀ f ∈ l, R16 f) (hl : l.length ≤ 1000000) (hc0 : pageC l p = 0) :
    Cal Tryz.prog 25 [v, .v (.int .i64 p)] H fun u H' => u = .t [.s H.length 0 (noL l p).length (.u 0), .v (.int .i64 (allJ (inO l (noL l p)))), .v (.int .i64 0)] ∧ H' = H ++ [⟨(noL l p).flatMap i64C, 2, .own 1⟩] := by
  have hsol := h.solid
  have hL := h.lenV (P := Tryz.prog) slTy25
  obtain ⟨hB, hp⟩ := pageC_ok hc0
  have h12 := okB_12 hB hR
  obtain ⟨i, off, c, b, rfl, hat⟩ := h.row (by omega)
  have hil := hat.lt
  refine cal_fn 70 mixed Tryz.func25 Tryz.ntmps25 Tryz.results25 rfl rfl rfl fun hw cx hx hq => ?_
  repeat (first | (simp only [go_sem, Int.reduceLT, Int.reduceLE, Int.reduceEq, Int.reduceToNat, hsol, hc0]) | ((with_reducible refine isSK ?_); refine call_ret (checkPage h (by omega)) ?_ ?_) )
  refine WK_for (fun n : Nat => ⟨[.s i off l.length c, .any, .any, .any, .any, .any, .any, .any, .s H.length 0 (noT l p n).length (.u 0)] ++ junk 63, H ++ [⟨(noT l p n).flatMap i64C, 2, .own 1⟩]⟩) (fun n => n ≤ l.length - 1) (fun n => l.length - n) 0 (Weak.slots ?_) ?_ fun n hn => ?_
  · simp [go_sem, noT]
  · simp
  have hlen := noT_len l p n
  have hlen2 : ((noT l p n).length : Int) = (n : Int) + 1 := by omega
  have hl2 : ((noT l p n).flatMap i64C).length = (noT l p n).length := by rw [flat_i64.flen, Nat.mul_one]
  have hn1 : norefH H.length H := norefH_wf hw (Nat.le_refl _)
  have hn2 : norefs H.length ((noT l p n).flatMap i64C) = true := flat_i64.norefs _ _
  have hij : (i = H.length) = False := eq_false (by omega)
  rcases Int.lt_or_le ((n : Int) + 1) l.length with hc | hc
  · have hnow := nowT_lt hp (show n < l.length by omega)
    have hcl := noT_cel hp (show n < l.length by omega)
    have hbk := nbT_ok (l := l) (now := nowT l p n) (o := noT l p n) (by omega)
    have a0 := hat.elem (rowL .u16 12) 12 hz12 hnow
    have f0 := hat.fits (rowL .u16 12) 12 hz12 hnow (by omega)
    rw [← pg_at] at a0
    have hsc := noT_succ l p n
    have t0 : ((n : Int) + 1 - 1).toNat = n := by omega
    generalize nowT l p n = now at hnow hcl hbk a0 f0 hsc
    have e4 : ((noT l p n).length : Int) - 1 = (n : Int) := by omega
    have e5 : (((noT l p n).length : Int) < (l.length : Int)) = True := eq_true (by omega)
    repeat (first | (simp only [go_sem, Int.reduceLT, Int.reduceLE, Int.reduceEq, Int.reduceToNat, hL, hc, e4, e5, t0, (get_app hat.get), hat.live, hcl, hl2, a0, rowL_rep]) | ((with_reducible refine And.intro ?_ ?_); omega) | ((with_reducible refine isWKr (id := 6) ?_); refine WK_drawAt 6 [[],[],[],[2],[2,3],[1,2,3,4],[1,2,3,4,5],[0,1,2,3,4,5,6],[0,1,2,3,4,5,6,7],[],[9],[9,10],[0,1,2,3,4,5,6,7,8,9,10,11]] (by kernel_rfl) ?_) )
    refine WK_for (fun k : Nat => ⟨[.s i off l.length c, .any, .any, .any, .any, .any, .any, .any, .s H.length 0 (noT l p n).length (.u 0), .v (.int .i64 (nbT l now (noT l p n) k)), .v (.int .i64 (lsT l now (nbT l now (noT l p n) k))), .p (H.length + 1) 0, .any, .any, .any, .any, .any, .any, .any, .any, .any, .any, .any, .any, .any, .any, .any, .any, .any, .any, .any, .any, .any, .any, .any, .any, .any, .v (.int .i64 l.length), .v (.int .i64 k)] ++ junk 33, H ++ [⟨(noT l p n).flatMap i64C, 2, .own 1⟩, ⟨rowL .u16 12 (pg l now), 50, .fix⟩]⟩) (fun k => k ≤ l.length) (fun k => l.length - k) 0 (Weak.slots ?_) ?_ fun k hk => ?_
    · simp [go_sem, nbT, lsT]
    · simp
    rcases Int.lt_or_le (k : Int) l.length with hc2 | hc2
    · have hk2 : k < l.length := by omega
      have a1 := hat.elem (rowL .u16 12) 12 hz12 hk2
      have f1 := hat.fits (rowL .u16 12) 12 hz12 hk2 (by omega)
      rw [← pg_at] at a1
      have hnr := nbT_range l now (noT l p n) k
      have hj : jumpF (pg l now) (pg l k) = jmp l now k := rfl
      have hs : nbT l now (noT l p n) (k + 1) = if hasI (noT l p n) k = false ∧ (nbT l now (noT l p n) k < 0 ∨ jmp l now k < jmp l now (nbT l now (noT l p n) k).toNat) then (k : Int) else nbT l now (noT l p n) k := rfl
      cases e6 : hasI (noT l p n) k
      · by_cases e7 : nbT l now (noT l p n) k < 0
        · rw [if_pos ⟨e6, .inl e7⟩] at hs
          have hls : lsT l now (k : Int) = jmp l now k := by unfold lsT; rw [if_neg (by omega)]; rfl
          repeat (first | (simp only [go_sem, Int.reduceLT, Int.reduceLE, Int.reduceEq, Int.reduceToNat, hc2, (get_app hat.get), hat.live, a1, hj, e6, e7, rowL_rep]) | ((with_reducible refine And.intro ?_ ?_); omega) | ((with_reducible refine isSK ?_); first | refine call_ret (jump (pg_12 h12 _) (pg_12 h12 _)) ?_ ?_ | refine call_ret (slicesHas (l := noT l p n) (Rd.own0 rfl rfl rfl) (by omega)) ?_ ?_) | ((with_reducible refine isWKr (id := 10) ?_); refine WK_drawUp 10 [[],[],[],[1,2],[1,2,3],[0,1,2,3,4],[0,1,2,3,4,5]] 5 (by kernel_rfl) ?_; dsimp only [List.take, List.drop]) )
          refine EK_again (k + 1) ?_ (by omega) (by omega)
          rw [hs, hls]
          exact Weak.slots (by simp [go_sem])
        · have hlb : lsT l now (nbT l now (noT l p n) k) = jmp l now (nbT l now (noT l p n) k).toNat := if_neg e7
          by_cases e8 : jmp l now k < jmp l now (nbT l now (noT l p n) k).toNat
          · rw [if_pos ⟨e6, .inr e8⟩] at hs
            have hls : lsT l now (k : Int) = jmp l now k := by unfold lsT; rw [if_neg (by omega)]; rfl
            repeat (first | (simp only [go_sem, Int.reduceLT, Int.reduceLE, Int.reduceEq, Int.reduceToNat, hc2, (get_app hat.get), hat.live, a1, hj, e6, e7, hlb, e8, rowL_rep]) | ((with_reducible refine And.intro ?_ ?_); omega) | ((with_reducible refine isSK ?_); first | refine call_ret (jump (pg_12 h12 _) (pg_12 h12 _)) ?_ ?_ | refine call_ret (slicesHas (l := noT l p n) (Rd.own0 rfl rfl rfl) (by omega)) ?_ ?_) | ((with_reducible refine isWKr (id := 10) ?_); refine WK_drawUp 10 [[],[],[],[1,2],[1,2,3],[0,1,2,3,4],[0,1,2,3,4,5]] 5 (by kernel_rfl) ?_; dsimp only [List.take, List.drop]) )
            refine EK_again (k + 1) ?_ (by omega) (by omega)
            rw [hs, hls]
            exact Weak.slots (by simp [go_sem])
          · rw [if_neg (by rintro ⟨_, h1 | h1⟩ <;> contradiction)] at hs
            repeat (first | (simp only [go_sem, Int.reduceLT, Int.reduceLE, Int.reduceEq, Int.reduceToNat, hc2, (get_app hat.get), hat.live, a1, hj, e6, e7, hlb, e8, rowL_rep]) | ((with_reducible refine And.intro ?_ ?_); omega) | ((with_reducible refine isSK ?_); first | refine call_ret (jump (pg_12 h12 _) (pg_12 h12 _)) ?_ ?_ | refine call_ret (slicesHas (l := noT l p n) (Rd.own0 rfl rfl rfl) (by omega)) ?_ ?_) | ((with_reducible refine isWKr (id := 10) ?_); refine WK_drawUp 10 [[],[],[],[1,2],[1,2,3],[0,1,2,3,4],[0,1,2,3,4,5]] 5 (by kernel_rfl) ?_; dsimp only [List.take, List.drop]) )
            refine EK_again (k + 1) ?_ (by omega) (by omega)
            rw [hs, hlb]
            exact Weak.slots (by simp [go_sem])
      · rw [if_neg (by rintro ⟨h1, _⟩; rw [e6] at h1; cases h1)] at hs
        repeat (first | (simp only [go_sem, Int.reduceLT, Int.reduceLE, Int.reduceEq, Int.reduceToNat, hc2, (get_app hat.get), hat.live, a1, hj, e6, rowL_rep]) | ((with_reducible refine And.intro ?_ ?_); omega) | ((with_reducible refine isSK ?_); first | refine call_ret (jump (pg_12 h12 _) (pg_12 h12 _)) ?_ ?_ | refine call_ret (slicesHas (l := noT l p n) (Rd.own0 rfl rfl rfl) (by omega)) ?_ ?_) | ((with_reducible refine isWKr (id := 10) ?_); refine WK_drawUp 10 [[],[],[],[1,2],[1,2,3],[0,1,2,3,4],[0,1,2,3,4,5]] 5 (by kernel_rfl) ?_; dsimp only [List.take, List.drop]) )
        refine EK_again (k + 1) ?_ (by omega) (by omega)
        rw [hs]
        exact Weak.slots (by simp [go_sem])
    · have : k = l.length := by omega
      subst this
      have hd1 : (H.length + 1 = H.length) = False := eq_false (by omega)
      have hd2 : (H.length + 2 = H.length) = False := eq_false (by omega)
      repeat (first | (simp only [go_sem, Int.reduceLT, Int.reduceLE, Int.reduceEq, Int.reduceToNat, Int.not_lt.2 hc2, hl2, hn1, hn2, hij, hd1, hd2, hx]) | ((with_reducible refine And.intro ?_ ?_); omega) )
      refine EK_again (n + 1) ?_ (by omega) (by omega)
      rw [hsc, flat_snoc]
      exact Weak.keepN rfl (by simp [go_sem] <;> omega) (by simp [hx]) (by simp [go_sem, hil, flat_i64.lts, i64C] <;> omega) (hw.app (by simp [go_sem, hil, flat_i64.lts, i64C] <;> omega))
  · have hn3 : n = l.length - 1 := by omega
    have hno : noT l p n = noL l p := by rw [hn3]; rfl
    have e5 : (((noL l p).length : Int) < (l.length : Int)) = False := eq_false (by rw [← hno]; omega)
    rw [hno] at hlen hlen2 hl2 hn2 ⊢
    have hok : okI l (noL l p) := hno ▸ noT_ok hp n (by omega)
    have hio := inO_len l (noL l p)
    repeat (first | (simp only [go_sem, Int.reduceLT, Int.reduceLE, Int.reduceEq, Int.reduceToNat, hL, e5]) | ((with_reducible refine isSK ?_); first | refine call_ret (inOrder (l := l) (o := noL l p) h.app (Rd.own0 rfl rfl rfl) hok (by omega)) ?_ ?_ | refine call_ret (allJumps (l := inO l (noL l p)) (by exact Rd.own 1 rfl (by rfl) (by rfl ) ) (inO_12 h12 _) (by omega)) ?_ ?_) )
    refine ret_one hq hw _ (.inl rfl) 0 rfl (of_eq_true (flat_i64.lts _ _)) (.t [.s H.length 0 (noL l p).length (.u 0), .v (.int .i64 (allJ (inO l (noL l p)))), .v (.int .i64 0)]) (by simp [go_sem]) ?_
    simp [go_sem, conc, concs, upσ, Cap.val]
theorem specNearestOrder_ok {H : List Blk} {v : V} {l : List (Nat → Int)} {p : Int} (h : Rd H v (rowL .u16 12) l) (hR : ∀ f ∈ l, R16 f) (hl : l.length ≤ 1000000) (hc0 : pageC l p = 0) :
    Cal Tryz.prog 26 [v, .v (.int .i64 p)] H fun u H' => u = .t [.s H.length 0 (noL l p).length (.u 0), .v (.int .i64 (allJ (inO l (noL l p)))), .v (.int .i64 0)] ∧ H' = H ++ [⟨(noL l p).flatMap i64C, 2, .own 1⟩] := by
  have hsol := h.solid
  have hL := h.lenV (P := Tryz.prog) slTy25
  obtain ⟨hB, hp⟩ := pageC_ok hc0
  have h12 := okB_12 hB hR
  obtain ⟨i, off, c, b, rfl, hat⟩ := h.row (by omega)
  have hil := hat.lt
  refine cal_fn 65 mixed Tryz.func26 Tryz.ntmps26 Tryz.results26 rfl rfl rfl fun hw cx hx hq => ?_
  repeat (first | (simp only [go_sem, Int.reduceLT, Int.reduceLE, Int.reduceEq, Int.reduceToNat, hsol, hc0]) | ((with_reducible refine isSK ?_); refine call_ret (l04Page h (by omega)) ?_ ?_) )
  refine WK_for (fun n : Nat => ⟨[.s i off l.length c, .any, .any, .any, .any, .any, .any, .any, .s H.length 0 (noT l p n).length (.u 0)] ++ junk 58, H ++ [⟨(noT l p n).flatMap i64C, 2, .own 1⟩]⟩) (fun n => n ≤ l.length - 1) (fun n => l.length - n) 0 (Weak.slots ?_) ?_ fun n hn => ?_
  · simp [go_sem, noT]
  · simp
  have hlen := noT_len l p n
  have hlen2 : ((noT l p n).length : Int) = (n : Int) + 1 := by omega
  have hl2 : ((noT l p n).flatMap i64C).length = (noT l p n).length := by rw [flat_i64.flen, Nat.mul_one]
  have hn1 : norefH H.length H := norefH_wf hw (Nat.le_refl _)
  have hn2 : norefs H.length ((noT l p n).flatMap i64C) = true := flat_i64.norefs _ _
  have hij : (i = H.length) = False := eq_false (by omega)
  rcases Int.lt_or_le ((n : Int) + 1) l.length with hc | hc
  · have hnow := nowT_lt hp (show n < l.length by omega)
    have hcl := noT_cel hp (show n < l.length by omega)
    have hbk := nbT_ok (l := l) (now := nowT l p n) (o := noT l p n) (by omega)
    have hsc := noT_succ l p n
    generalize nowT l p n = now at hnow hcl hbk hsc
    have t0 : ((n : Int) + 1 - 1).toNat = n := by omega
    have e4 : ((noT l p n).length : Int) - 1 = (n : Int) := by omega
    have e5 : (((noT l p n).length : Int) < (l.length : Int)) = True := eq_true (by omega)
    repeat (first | (simp only [go_sem, Int.reduceLT, Int.reduceLE, Int.reduceEq, Int.reduceToNat, hL, hc, e4, e5, t0, (get_app hat.get), hat.live, hcl, hl2]) | ((with_reducible refine And.intro ?_ ?_); omega) )
    refine WK_for (fun k : Nat => ⟨[.s i off l.length c, .any, .any, .any, .any, .any, .any, .any, .s H.length 0 (noT l p n).length (.u 0), .v (.int .i64 now), .v (.int .i64 (nbT l now (noT l p n) k)), .v (.int .i64 k)] ++ junk 55, H ++ [⟨(noT l p n).flatMap i64C, 2, .own 1⟩]⟩) (fun k => k ≤ l.length) (fun k => l.length - k) 0 (Weak.slots ?_) ?_ fun k hk => ?_
    · simp [go_sem, nbT]
    · simp
    rcases Int.lt_or_le (k : Int) l.length with hc2 | hc2
    · have hk2 : k < l.length := by omega
      have hnr := nbT_range l now (noT l p n) k
      have hs : nbT l now (noT l p n) (k + 1) = if hasI (noT l p n) k = false ∧ (nbT l now (noT l p n) k < 0 ∨ jmp l now k < jmp l now (nbT l now (noT l p n) k).toNat) then (k : Int) else nbT l now (noT l p n) k := rfl
      cases e6 : hasI (noT l p n) k
      · by_cases e7 : nbT l now (noT l p n) k < 0
        · rw [if_pos ⟨e6, .inl e7⟩] at hs
          repeat (first | (simp only [go_sem, Int.reduceLT, Int.reduceLE, Int.reduceEq, Int.reduceToNat, hL, hc2, e6, e7]) | ((with_reducible refine And.intro ?_ ?_); omega) | ((with_reducible refine isSK ?_); refine call_ret (l00Has (l := noT l p n) (Rd.own0 rfl rfl rfl) (by omega)) ?_ ?_) )
          refine EK_again (k + 1) ?_ (by omega) (by omega)
          rw [hs]
          exact Weak.slots (by simp [go_sem])
        · by_cases e8 : jmp l now k < jmp l now (nbT l now (noT l p n) k).toNat
          · rw [if_pos ⟨e6, .inr e8⟩] at hs
            repeat (first | (simp only [go_sem, Int.reduceLT, Int.reduceLE, Int.reduceEq, Int.reduceToNat, hL, hc2, e6, e7, e8, Int.toNat_natCast]) | ((with_reducible refine And.intro ?_ ?_); omega) | ((with_reducible refine isSK ?_); first | refine call_ret (l00Has (l := noT l p n) (Rd.own0 rfl rfl rfl) (by omega)) ?_ ?_ | refine call_ret (l04Jump h.app h12 (by omega) (by omega)) ?_ ?_) )
            refine EK_again (k + 1) ?_ (by omega) (by omega)
            rw [hs]
            exact Weak.slots (by simp [go_sem])
          · rw [if_neg (by rintro ⟨_, h1 | h1⟩ <;> contradiction)] at hs
            repeat (first | (simp only [go_sem, Int.reduceLT, Int.reduceLE, Int.reduceEq, Int.reduceToNat, hL, hc2, e6, e7, e8, Int.toNat_natCast]) | ((with_reducible refine And.intro ?_ ?_); omega) | ((with_reducible refine isSK ?_); first | refine call_ret (l00Has (l := noT l p n) (Rd.own0 rfl rfl rfl) (by omega)) ?_ ?_ | refine call_ret (l04Jump h.app h12 (by omega) (by omega)) ?_ ?_) )
            refine EK_again (k + 1) ?_ (by omega) (by omega)
            rw [hs]
            exact Weak.slots (by simp [go_sem])
      · rw [if_neg (by rintro ⟨h1, _⟩; rw [e6] at h1; cases h1)] at hs
        repeat (first | (simp only [go_sem, Int.reduceLT, Int.reduceLE, Int.reduceEq, Int.reduceToNat, hL, hc2, e6]) | ((with_reducible refine And.intro ?_ ?_); omega) | ((with_reducible refine isSK ?_); refine call_ret (l00Has (l := noT l p n) (Rd.own0 rfl rfl rfl) (by omega)) ?_ ?_) )
        refine EK_again (k + 1) ?_ (by omega) (by omega)
        rw [hs]
        exact Weak.slots (by simp [go_sem])
    · have : k = l.length := by omega
      subst this
      have hd1 : (H.length + 1 = H.length) = False := eq_false (by omega)
      repeat (first | (simp only [go_sem, Int.reduceLT, Int.reduceLE, Int.reduceEq, Int.reduceToNat, hL, Int.not_lt.2 hc2, hl2, hn1, hn2, hij, hd1, hx]) | ((with_reducible refine And.intro ?_ ?_); omega) )
      refine EK_again (n + 1) ?_ (by omega) (by omega)
      rw [hsc, flat_snoc]
      exact Weak.keepN rfl (by simp [go_sem] <;> omega) (by simp [hx]) (by simp [go_sem, hil, flat_i64.lts, i64C] <;> omega) (hw.app (by simp [go_sem, hil, flat_i64.lts, i64C] <;> omega))
  · have hn3 : n = l.length - 1 := by omega
    have hno : noT l p n = noL l p := by rw [hn3]; rfl
    have e5 : (((noL l p).length : Int) < (l.length : Int)) = False := eq_false (by rw [← hno]; omega)
    rw [hno] at hlen hlen2 hl2 hn2 ⊢
    have hok : okI l (noL l p) := hno ▸ noT_ok hp n (by omega)
    have hio := inO_len l (noL l p)
    repeat (first | (simp only [go_sem, Int.reduceLT, Int.reduceLE, Int.reduceEq, Int.reduceToNat, hL, e5]) | ((with_reducible refine isSK ?_); first | refine call_ret (l04Pages (l := l) (o := noL l p) h.app (Rd.own0 rfl rfl rfl) hok (by omega)) ?_ ?_ | refine call_ret (l04All (l := inO l (noL l p)) (by exact Rd.own 1 rfl (by rfl) (by rfl ) ) (inO_12 h12 _) (by omega)) ?_ ?_) )
    refine ret_one hq hw _ (.inl rfl) 0 rfl (of_eq_true (flat_i64.lts _ _)) (.t [.s H.length 0 (noL l p).length (.u 0), .v (.int .i64 (allJ (inO l (noL l p)))), .v (.int .i64 0)]) (by simp [go_sem]) ?_
    simp [go_sem, conc, concs, upσ, Cap.val]
end Go.Proofs.YtaekjojblkhfdaaGreatDoor
namespace Go.Proofs.YtaekjojblkhfdaaGreatDoor
open Go Go.Sx
abbrev SS := Option (List Int × Int)
def cutS (s : Int) : SS → Bool
  | some (_, x) => decide (x ≤ s)
  | none => false
def leI : SS → Int
  | some (_, x) => x
  | none => -1
def beL : SS → List Int
  | some (b, _) => b
  | none => []
def moreJ (l : List (Nat → Int)) (o : List Int) (k : Nat) : Int := match o.getLast? with | some p => jmp l p.toNat k | none => 0
theorem moreJ_range (l : List (Nat → Int)) (o : List Int) (k : Nat) : 0 ≤ moreJ l o k ∧ moreJ l o k ≤ 144 := by
  unfold moreJ
  split
  · exact jmp_le _ _ _
  · omega
def srch (l : List (Nat → Int)) (n : Nat) : Nat → List Int → Int → SS → SS
  | 0, o, s, st => if cutS s st = true then st else some (o, s)
  | f + 1, o, s, st => if cutS s st = true then st else (List.range n).foldl (fun (st : SS) (k : Nat) => if hasI o (k : Int) = true then st else srch l n f (o ++ [(k : Int)]) (s + moreJ l o k) st) st
def srK (l : List (Nat → Int)) (n f : Nat) (o : List Int) (s : Int) (st : SS) : Nat → SS
  | 0 => st
  | c + 1 => if hasI o c = true then srK l n f o s st c else srch l n f (o ++ [(c : Int)]) (s + moreJ l o c) (srK l n f o s st c)
theorem srK_fold (l : List (Nat → Int)) (n f : Nat) (o : List Int) (s : Int) (st : SS) : ∀ c, (List.range c).foldl (fun (st : SS) (k : Nat) => if hasI o (k : Int) = true then st else srch l n f (o ++ [(k : Int)]) (s + moreJ l o k) st) st = srK l n f o s st c
  | 0 => rfl
  | c + 1 => by rw [List.range_succ, List.foldl_append, srK_fold l n f o s st c]; rfl
theorem srch_zero (l : List (Nat → Int)) (n : Nat) (o : List Int) (s : Int) (st : SS) : srch l n 0 o s st = if cutS s st = true then st else some (o, s) := rfl
theorem srch_succ (l : List (Nat → Int)) (n f : Nat) (o : List Int) (s : Int) (st : SS) : srch l n (f + 1) o s st = if cutS s st = true then st else srK l n f o s st n := by
  rw [← srK_fold]; rfl
def impS (n : Nat) (st st' : SS) : Prop := st' = st ∨ ∃ b x, st' = some (b, x) ∧ b.length = n ∧ 0 ≤ x ∧ x ≤ 1152 ∧ ∀ b0 y, st = some (b0, y) → x < y
theorem impS_trans {n : Nat} {a b c : SS} (h : impS n a b) (h2 : impS n b c) : impS n a c := by
  rcases h with rfl | ⟨b1, x1, rfl, l1, p1, q1, r1⟩
  · exact h2
  · rcases h2 with rfl | ⟨b2, x2, rfl, l2, p2, q2, r2⟩
    · exact .inr ⟨b1, x1, rfl, l1, p1, q1, r1⟩
    · refine .inr ⟨b2, x2, rfl, l2, p2, q2, fun b0 y e => ?_⟩
      have := r1 b0 y e
      have := r2 b1 x1 rfl
      omega
theorem impS_ne {n : Nat} {a b c : SS} (h : impS n a b) (h2 : impS n b c) (hne : b ≠ a) : c ≠ a := by
  rcases h with rfl | ⟨b1, x1, rfl, l1, p1, q1, r1⟩
  · exact absurd rfl hne
  · rcases h2 with rfl | ⟨b2, x2, rfl, l2, p2, q2, r2⟩
    · exact hne
    · intro e
      cases a with
      | none => cases e
      | some a =>
        obtain ⟨b0, y⟩ := a
        cases e
        have := r1 _ _ rfl
        have := r2 _ _ rfl
        omega
def okS (n : Nat) (st : SS) : Prop := ∀ b x, st = some (b, x) → b.length = n ∧ 0 ≤ x ∧ x ≤ 1152
theorem impS_ok {n : Nat} {a b : SS} (h : impS n a b) (ha : okS n a) : okS n b := by
  rcases h with rfl | ⟨b1, x1, rfl, l1, p1, q1, r1⟩
  · exact ha
  · intro b2 x2 e
    cases e
    exact ⟨l1, p1, q1⟩
theorem impS_some {n : Nat} {a b : SS} (h : impS n a b) (ha : a ≠ none) : b ≠ none := by
  rcases h with rfl | ⟨b1, x1, rfl, _⟩
  · exact ha
  · simp
theorem srch_imp {l : List (Nat → Int)} {n : Nat} (h8 : n ≤ 8) : ∀ (f : Nat) (o : List Int) (s : Int) (st : SS), o.length + f = n → 0 ≤ s → s ≤ 144 * o.length → impS n st (srch l n f o s st)
  | 0, o, s, st, ho, h0, h1 => by
    rw [srch_zero]
    split
    · exact .inl rfl
    · rename_i hc
      refine .inr ⟨o, s, rfl, by omega, h0, by omega, fun b0 y e => ?_⟩
      subst e
      unfold cutS at hc
      simp at hc; omega
  | f + 1, o, s, st, ho, h0, h1 => by
    rw [srch_succ]
    split
    · exact .inl rfl
    · have : ∀ c, impS n st (srK l n f o s st c) := by
        intro c
        induction c with
        | zero => exact .inl rfl
        | succ c ih =>
          unfold srK
          split
          · exact ih
          · have hm := moreJ_range l o c
            exact impS_trans ih (srch_imp h8 f _ _ _ (by simp; omega) (by omega) (by simp; omega))
      exact this n
theorem srK_imp {l : List (Nat → Int)} {n f : Nat} {o : List Int} {s : Int} {st : SS} (h8 : n ≤ 8) (ho : o.length + (f + 1) = n) (h0 : 0 ≤ s) (h1 : s ≤ 144 * o.length) : ∀ c, impS n st (srK l n f o s st c)
  | 0 => .inl rfl
  | c + 1 => by
    have ih := srK_imp (l := l) (st := st) h8 ho h0 h1 c
    unfold srK
    split
    · exact ih
    · have hm := moreJ_range l o c
      exact impS_trans ih (srch_imp h8 f _ _ _ (by simp; omega) (by omega) (by simp; omega))
theorem srch_some {l : List (Nat → Int)} {n : Nat} (h8 : n ≤ 8) : ∀ (f : Nat) (o : List Int) (s : Int) (st : SS), o.length + f = n → 0 ≤ s → s ≤ 144 * o.length → srch l n f o s st ≠ none
  | 0, o, s, st, _, _, _ => by
    rw [srch_zero]
    split
    · rename_i hc; intro e; subst e; cases hc
    · simp
  | f + 1, o, s, st, ho, h0, h1 => by
    rw [srch_succ]
    split
    · rename_i hc; intro e; subst e; cases hc
    · have hex : ∃ c, c < n ∧ hasI o c = false := by
        apply Classical.byContradiction
        intro hne
        have := pigeon n o fun k hk => by
          apply hasI_iff.1
          cases e : hasI o k
          · exact absurd ⟨k, hk, e⟩ hne
          · rfl
        omega
      obtain ⟨c, hc, hco⟩ := hex
      have hm := moreJ_range l o c
      have h2 : srK l n f o s st (c + 1) ≠ none := by
        unfold srK
        rw [hco, if_neg (by simp)]
        exact srch_some h8 f _ _ _ (by simp; omega) (by omega) (by simp; omega)
      have h3 : ∀ d, srK l n f o s st (c + 1 + d) ≠ none := by
        intro d
        induction d with
        | zero => exact h2
        | succ d ih =>
          rw [← Nat.add_assoc]
          unfold srK
          split
          · exact ih
          · have hm := moreJ_range l o (c + 1 + d)
            exact impS_some (srch_imp h8 f _ _ _ (by simp; omega) (by omega) (by simp; omega)) ih
      have := h3 (n - (c + 1))
      rwa [show c + 1 + (n - (c + 1)) = n by omega] at this
end Go.Proofs.YtaekjojblkhfdaaGreatDoor
