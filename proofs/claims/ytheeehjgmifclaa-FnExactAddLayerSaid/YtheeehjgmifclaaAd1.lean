/- Contracts of functions of the translated program, by the walk. -/
import Derived.Test.YtheeehjgmifclaaS2
import Derived.Test.YtheeehjgmifclaaB1
import Derived.Test.YtheeehjgmifclaaLD
import Derived.Test.YtheeehjgmifclaaS9
set_option linter.unusedVariables false
set_option linter.unusedSimpArgs false
set_option maxRecDepth 8000
set_option maxHeartbeats 4000000
namespace Go.Proofs.Ytheeehjgmifclaa
open Go Go.Sx
/-- n things of zeros. -/
def scZ (n : Nat) : List V := (List.replicate n fun _ : Nat => (0 : Int)).flatMap encL
theorem scZ_len (n : Nat) : (scZ n).length = n * 27 := by unfold scZ; rw [flat_encL.flen, List.length_replicate]
theorem scZ_zeros (n : Nat) : zerosL [.v (.int .u16 0), .v (.int .u16 0), .v (.int .u16 0), .v (.int .u16 0), .v (.int .u16 0), .v (.int .u16 0), .v (.int .u16 0), .v (.int .u16 0), .v (.int .u16 0), .v (.int .u16 0), .v (.int .u16 0), .v (.int .u16 0), .v (.int .u16 0), .v (.int .u16 0), .v (.int .u16 0), .v (.int .u16 0), .v (.int .u16 0), .v (.int .u16 0), .v (.int .u16 0), .v (.int .u16 0), .v (.int .u16 0), .v (.int .u16 0), .v (.int .u16 0), .v (.int .u16 0), .v (.int .i8 0), .v (.int .i8 0), .v (.int .i8 0)] n = scZ n := zeros_flat encL (fun _ => 0) n
theorem scZ_add (a b : Nat) : scZ (a + b) = scZ a ++ scZ b := by unfold scZ; rw [← List.replicate_append_replicate, List.flatMap_append]
theorem scGrow {H : List Blk} {n : Nat} (h0 : 0 < n) (hn : n ≤ 100000) :
    Cal Try.prog 113 [.v (.slice none 0 0), .v (.int .i64 n)] H fun u H' => u = .s H.length 0 0 (.i 0) ∧ H' = H ++ [⟨scZ n, 44, .own 27⟩] := by
  have f0 : ((n : Int) < 0) = False := eq_false (by omega)
  have f1 : (0 < (n : Int)) = True := eq_true (by omega)
  have z0 : ((0 : Nat) : Int) = 0 := rfl
  have z1 : ((0 : Int) - 0) = 0 := rfl
  have z2 : (n : Int) - 0 = n := by omega
  have z3 : (0 : Int).toNat = 0 := rfl
  have hmk : mko Try.prog 3 = some .i64 := by kernel_rfl
  refine cal_fn 25 mixed Try.func113 Try.ntmps113 Try.results113 rfl rfl rfl fun hw cx hx hq => ?_
  repeat (first | (simp only [go_sem, Int.reduceLT, Int.reduceLE, Int.reduceEq, Int.reduceToNat, hmk, f0, f1, z0, z1, z2, z3, scZ_zeros, scZ_len]) | ((with_reducible refine And.intro ?_ ?_); omega) | ((with_reducible refine And.intro ?_ ?_); first | (with_reducible rfl) | assumption | (simp only [go_sem]; done)))
  refine ret_at hq _ (.inl rfl) (by simp) ?_
  simp [go_sem]
theorem scConcat {H : List Blk} {bi : Nat} {c : Cap} {v w : V} {la lb : List (Nat → Int)} {ty : TypeId} {kd : BK} (hb : H[bi]? = some ⟨[v, w], ty, kd⟩) (hk : kd.live = true) (h1 : Rd H v encL la) (h2 : Rd H w encL lb) (h0 : 0 < la.length) (hl : la.length ≤ 1000) (hl2 : lb.length ≤ 1000) :
    Cal Try.prog 71 [.s bi 0 2 c] H fun u H' => u = .s H.length 0 (la.length + lb.length) (.i 0) ∧ H' = H ++ [⟨(la ++ lb).flatMap encL, 44, .own 27⟩] := by
  have hL1 := h1.lenV (P := Try.prog) slTy25
  have hL2 := h2.lenV (P := Try.prog) slTy25
  have hs2 := h2.solid
  have hblt := (List.getElem?_eq_some_iff.1 hb).1
  have hs1 := h1.solid
  let sz : Nat → Nat := fun n => if n = 0 then 0 else if n = 1 then la.length else la.length + lb.length
  have sz0 : sz 0 = 0 := rfl
  have sz1 : sz 1 = la.length := rfl
  have sz2 : sz 2 = la.length + lb.length := rfl
  let rw_ : Nat → List V := fun n => if n = 0 then scZ la.length ++ scZ lb.length else if n = 1 then la.flatMap encL ++ scZ lb.length else la.flatMap encL ++ lb.flatMap encL
  have rw0 : rw_ 0 = scZ la.length ++ scZ lb.length := rfl
  have rw1 : rw_ 1 = la.flatMap encL ++ scZ lb.length := rfl
  have rw2 : rw_ 2 = la.flatMap encL ++ lb.flatMap encL := rfl
  clear_value sz rw_
  have c0 : cel [v, w] 0 = v := rfl
  have c1 : cel [v, w] 1 = w := rfl
  have z0 : ((0 : Nat) : Int).toNat = 0 := rfl
  have z1 : ((1 : Nat) : Int).toNat = 1 := rfl
  have y0 : (((0 : Nat) : Int) < ((2 : Nat) : Int)) = True := eq_true (by omega)
  have y1 : (((1 : Nat) : Int) < ((2 : Nat) : Int)) = True := eq_true (by omega)
  have y2 : (((2 : Nat) : Int) < ((2 : Nat) : Int)) = False := eq_false (by omega)
  have gb : ∀ L : List Blk, (H ++ L)[bi]? = some ⟨[v, w], ty, kd⟩ := fun L => get_app hb
  refine cal_fn 35 mixed Try.func71 Try.ntmps71 Try.results71 rfl rfl rfl fun hw cx hx hq => ?_
  repeat (first | (simp only [go_sem, Int.reduceLT, Int.reduceLE, Int.reduceEq, Int.reduceToNat]) | ((with_reducible refine And.intro ?_ ?_); omega) | ((with_reducible refine And.intro ?_ ?_); first | (with_reducible rfl) | assumption | (simp only [go_sem]; done)))
  refine WK_for (fun n : Nat => ⟨[.s bi 0 2 c, .any, .any, .v (.int .i64 (sz n)), .any, .any, .any, .any, .any, .s bi 0 2 c, .v (.int .i64 (2 : Nat)), .v (.int .i64 n)] ++ junk 24, H⟩) (fun n => n ≤ 2) (fun n => 2 - n) 0 ?_ (by omega) fun n hn => ?_
  · rw [sz0]; exact Weak.slots (by simp [go_sem])
  rcases (show n = 0 ∨ n = 1 ∨ n = 2 by omega) with rfl | rfl | rfl
  · have f0 : ((sz 0 : Int) + (la.length : Int) < 0) = False := eq_false (by omega)
    repeat (first | (simp only [go_sem, Int.reduceLT, Int.reduceLE, Int.reduceEq, Int.reduceToNat, y0, z0, hb, hk, c0, hL1, hs1, f0, Nat.zero_mul, Nat.add_zero, Nat.zero_add]) | ((with_reducible refine And.intro ?_ ?_); omega) | ((with_reducible refine And.intro ?_ ?_); first | (with_reducible rfl) | assumption | (simp only [go_sem]; done)))
    refine EK_again 1 ?_ (by omega) (by omega)
    have e : ((sz 1 : Nat) : Int) = (sz 0 : Int) + (la.length : Int) := by rw [sz0, sz1]; omega
    rw [e]
    exact Weak.slots (by simp [go_sem])
  · have f0 : ((sz 1 : Int) + (lb.length : Int) < 0) = False := eq_false (by omega)
    repeat (first | (simp only [go_sem, Int.reduceLT, Int.reduceLE, Int.reduceEq, Int.reduceToNat, y1, z1, hb, hk, c1, hL2, hs2, f0, Nat.one_mul, Nat.zero_add]) | ((with_reducible refine And.intro ?_ ?_); omega) | ((with_reducible refine And.intro ?_ ?_); first | (with_reducible rfl) | assumption | (simp only [go_sem]; done)))
    refine EK_again 2 ?_ (by omega) (by omega)
    have e : ((sz 2 : Nat) : Int) = (sz 1 : Int) + (lb.length : Int) := by rw [sz1, sz2]; omega
    rw [e]
    exact Weak.slots (by simp [go_sem])
  repeat (first | (simp only [go_sem, Int.reduceLT, Int.reduceLE, Int.reduceEq, Int.reduceToNat, y2, sz2]) | ((with_reducible refine And.intro ?_ ?_); omega) | ((with_reducible refine isSK ?_); first | (refine call_ret (scGrow (by omega) (by omega)) (by simp only [go_sem, Int.reduceLT, Int.reduceLE, Int.reduceEq, Int.reduceToNat, y2, sz2]) ?_)) | ((with_reducible refine isMC ?_); first | (refine mcall_ret (scGrow (by omega) (by omega)) (by simp only [go_sem, Int.reduceLT, Int.reduceLE, Int.reduceEq, Int.reduceToNat, y2, sz2]) (by simp only [go_sem, Int.reduceLT, Int.reduceLE, Int.reduceEq, Int.reduceToNat, y2, sz2]) ?_)) | ((with_reducible refine And.intro ?_ ?_); first | (with_reducible rfl) | assumption | (simp only [go_sem]; done)))
  refine WK_for (fun n : Nat => ⟨[.any, .any, .any, .any, .any, .any, .s H.length 0 (sz n) (.i 0), .any, .any, .any, .any, .any, .any, .any, .any, .any, .any, .any, .any, .any, .any, .any, .any, .any, .any, .s bi 0 2 c, .v (.int .i64 (2 : Nat)), .v (.int .i64 n)] ++ junk 8, H ++ [⟨rw_ n, 44, .own 27⟩]⟩) (fun n => n ≤ 2) (fun n => 2 - n) 0 ?_ (by omega) fun n hn => ?_
  · rw [rw0, sz0, scZ_add]
    exact Weak.slots (by simp [go_sem])
  rcases (show n = 0 ∨ n = 1 ∨ n = 2 by omega) with rfl | rfl | rfl
  · obtain ⟨i, off, c', b, rfl, hat, hfit⟩ := h1.full h0
    have hlt := hat.lt
    have g2 : ∀ L : List Blk, (H ++ L)[i]? = some b := fun L => get_app hat.get
    have hsg : seg b.cells off (la.length * 27) = la.flatMap encL := by have := hat.sg; rwa [flat_encL.flen] at this
    have hwr : wr (scZ la.length ++ scZ lb.length) 0 (la.flatMap encL) = la.flatMap encL ++ scZ lb.length := by
      rw [wr_app (by rw [scZ_len, flat_encL.flen]; omega), wr_whole _ _ (by rw [scZ_len, flat_encL.flen])]
    have hll : (scZ la.length ++ scZ lb.length).length = la.length * 27 + lb.length * 27 := by rw [List.length_append, scZ_len, scZ_len]
    have hfl := flat_encL.flen la
    have hd : (i = H.length) = False := eq_false (by omega)
    rw [flat_encL.flen] at hfit
    repeat (first | (simp only [go_sem, Int.reduceLT, Int.reduceLE, Int.reduceEq, Int.reduceToNat, y0, z0, gb, hk, c0, g2, hat.live, hlt, hsg, hfl, hd, rw0, sz0, hwr, hll, Nat.zero_mul, Nat.add_zero, Nat.zero_add]) | ((with_reducible refine And.intro ?_ ?_); omega) | ((with_reducible refine And.intro ?_ ?_); first | (with_reducible rfl) | assumption | (simp only [go_sem]; done)))
    refine EK_again 1 ?_ (by omega) (by omega)
    rw [rw1, sz1]
    exact Weak.slots (by simp [go_sem])
  · rcases h2 with ⟨rfl, rfl⟩ | ⟨i, off, c2, b, rfl, hat, hfit⟩
    · have hwr : wr (la.flatMap encL ++ scZ 0) (la.length * 27) [] = la.flatMap encL := by
        rw [wr_at (m := 0) _ (by rw [flat_encL.flen]; omega)]; simp [wr, scZ]
      have hll : (la.flatMap encL ++ scZ 0).length = la.length * 27 := by rw [List.length_append, scZ_len, flat_encL.flen]; omega
      rw [List.length_nil] at rw1
      repeat (first | (simp only [go_sem, Int.reduceLT, Int.reduceLE, Int.reduceEq, Int.reduceToNat, y1, z1, gb, hk, c1, rw1, sz1, hwr, hll, Nat.one_mul, Nat.zero_mul, Nat.add_zero, Nat.zero_add]) | ((with_reducible refine And.intro ?_ ?_); omega) | ((with_reducible refine And.intro ?_ ?_); first | (with_reducible rfl) | assumption | (simp only [go_sem]; done)))
      refine EK_again 2 ?_ (by omega) (by omega)
      rw [rw2, sz2, List.flatMap_nil, List.append_nil, List.length_nil, Nat.add_zero]
      exact Weak.slots (by simp [go_sem])
    · have hlt := hat.lt
      have g2 : ∀ L : List Blk, (H ++ L)[i]? = some b := fun L => get_app hat.get
      have hsg : seg b.cells off (lb.length * 27) = lb.flatMap encL := by have := hat.sg; rwa [flat_encL.flen] at this
      have hfl := flat_encL.flen lb
      have hwr : wr (la.flatMap encL ++ scZ lb.length) (la.length * 27) (lb.flatMap encL) = la.flatMap encL ++ lb.flatMap encL := by
        rw [wr_at (m := 0) _ (by rw [flat_encL.flen]; omega), wr_whole _ _ (by rw [scZ_len, flat_encL.flen])]
      have hll : (la.flatMap encL ++ scZ lb.length).length = la.length * 27 + lb.length * 27 := by rw [List.length_append, scZ_len, flat_encL.flen]
      have hd : (i = H.length) = False := eq_false (by omega)
      rw [flat_encL.flen] at hfit
      repeat (first | (simp only [go_sem, Int.reduceLT, Int.reduceLE, Int.reduceEq, Int.reduceToNat, y1, z1, gb, hk, c1, g2, hat.live, hlt, hsg, hfl, hd, rw1, sz1, hwr, hll, Nat.one_mul, Nat.zero_mul, Nat.add_zero, Nat.zero_add]) | ((with_reducible refine And.intro ?_ ?_); omega) | ((with_reducible refine And.intro ?_ ?_); first | (with_reducible rfl) | assumption | (simp only [go_sem]; done)))
      refine EK_again 2 ?_ (by omega) (by omega)
      rw [rw2, sz2]
      exact Weak.slots (by simp [go_sem])
  repeat (first | (simp only [go_sem, Int.reduceLT, Int.reduceLE, Int.reduceEq, Int.reduceToNat, y2, sz2, rw2]) | ((with_reducible refine And.intro ?_ ?_); omega) | ((with_reducible refine And.intro ?_ ?_); first | (with_reducible rfl) | assumption | (simp only [go_sem]; done)))
  refine ret_at hq _ (.inl rfl) (by simp) ?_
  simp [go_sem]
end Go.Proofs.Ytheeehjgmifclaa

