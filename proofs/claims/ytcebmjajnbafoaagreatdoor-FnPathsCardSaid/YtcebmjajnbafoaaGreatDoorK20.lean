/- Contracts of functions of the translated program, by the walk. -/
import Derived.Test.YtcebmjajnbafoaaGreatDoorK14
set_option linter.unusedVariables false
set_option linter.unusedSimpArgs false
set_option maxRecDepth 8000
set_option maxHeartbeats 16000000
namespace Go.Proofs.YtcebmjajnbafoaaGreatDoor
open Go Go.Sx
/-- n keys of zeros. -/
def zK (n : Nat) : List V := (List.replicate n fun _ : Nat => (0 : Int)).flatMap encK
theorem zK_len (n : Nat) : (zK n).length = n * 3 := by unfold zK; rw [flat_encK.flen, List.length_replicate]
theorem zK_zeros (n : Nat) : zerosL [.v (.int .i16 0), .v (.int .i8 0), .v (.int .i8 0)] n = zK n := zeros_flat encK (fun _ => 0) n
theorem zK_add (a b : Nat) : zK (a + b) = zK a ++ zK b := by unfold zK; rw [← List.replicate_append_replicate, List.flatMap_append]
theorem growNil {H : List Blk} {n : Nat} (h0 : 0 < n) (hn : n ≤ 100000) :
    Cal Tryz.prog 85 [.v (.slice none 0 0), .v (.int .i64 n)] H fun u H' => u = .s H.length 0 0 (.i 0) ∧ H' = H ++ [⟨zK n, 42, .own 3⟩] := by
  have f0 : ((n : Int) < 0) = False := eq_false (by omega)
  have f1 : (0 < (n : Int)) = True := eq_true (by omega)
  have z0 : ((0 : Nat) : Int) = 0 := rfl
  have z1 : ((0 : Int) - 0) = 0 := rfl
  have z2 : (n : Int) - 0 = n := by omega
  have z3 : (0 : Int).toNat = 0 := rfl
  have hmk : mko Tryz.prog 3 = some .i64 := by kernel_rfl
  refine cal_fn 25 mixed Tryz.func85 Tryz.ntmps85 Tryz.results85 rfl rfl rfl fun hw cx hx hq => ?_
  repeat (first | (simp only [go_sem, Int.reduceLT, Int.reduceLE, Int.reduceEq, Int.reduceToNat, hmk, f0, f1, z0, z1, z2, z3, zK_zeros, zK_len]) | ((with_reducible refine And.intro ?_ ?_); omega) | ((with_reducible refine And.intro ?_ ?_); first | (with_reducible rfl) | assumption | (simp only [go_sem]; done)))
  refine ret_at hq _ (.inl rfl) (by simp) ?_
  simp [go_sem]
theorem concat2 {H : List Blk} {bi : Nat} {c : Cap} {v w : V} {la lb : List (Nat → Int)} {ty : TypeId} {kd : BK} (hb : H[bi]? = some ⟨[v, w], ty, kd⟩) (hk : kd.live = true) (h1 : Rd H v encK la) (h2 : Rd H w encK lb) (h02 : 0 < lb.length) (h0 : 0 < la.length) (hl : la.length ≤ 1000) (hl2 : lb.length ≤ 1000) :
    Cal Tryz.prog 65 [.s bi 0 2 c] H fun u H' => u = .s H.length 0 (la.length + lb.length) (.i 0) ∧ H' = H ++ [⟨(la ++ lb).flatMap encK, 42, .own 3⟩] := by
  have hL1 := h1.lenV (P := Tryz.prog) slTy25
  have hL2 := h2.lenV (P := Tryz.prog) slTy25
  have hs2 := h2.solid
  have hblt := (List.getElem?_eq_some_iff.1 hb).1
  have gb : ∀ L : List Blk, (H ++ L)[bi]? = some ⟨[v, w], ty, kd⟩ := fun L => get_app hb
  have hs1 := h1.solid
  let sz : Nat → Nat := fun n => if n = 0 then 0 else if n = 1 then la.length else la.length + lb.length
  have sz0 : sz 0 = 0 := rfl
  have sz1 : sz 1 = la.length := rfl
  have sz2 : sz 2 = la.length + lb.length := rfl
  let rw_ : Nat → List V := fun n => if n = 0 then zK la.length ++ zK lb.length else if n = 1 then la.flatMap encK ++ zK lb.length else la.flatMap encK ++ lb.flatMap encK
  have rw0 : rw_ 0 = zK la.length ++ zK lb.length := rfl
  have rw1 : rw_ 1 = la.flatMap encK ++ zK lb.length := rfl
  have rw2 : rw_ 2 = la.flatMap encK ++ lb.flatMap encK := rfl
  clear_value sz rw_
  have c0 : cel [v, w] 0 = v := rfl
  have c1 : cel [v, w] 1 = w := rfl
  have z0 : ((0 : Nat) : Int).toNat = 0 := rfl
  have z1 : ((1 : Nat) : Int).toNat = 1 := rfl
  have y0 : (((0 : Nat) : Int) < ((2 : Nat) : Int)) = True := eq_true (by omega)
  have y1 : (((1 : Nat) : Int) < ((2 : Nat) : Int)) = True := eq_true (by omega)
  have y2 : (((2 : Nat) : Int) < ((2 : Nat) : Int)) = False := eq_false (by omega)
  refine cal_fn 35 mixed Tryz.func65 Tryz.ntmps65 Tryz.results65 rfl rfl rfl fun hw cx hx hq => ?_
  repeat (first | (simp only [go_sem, Int.reduceLT, Int.reduceLE, Int.reduceEq, Int.reduceToNat]) | ((with_reducible refine And.intro ?_ ?_); omega) | ((with_reducible refine And.intro ?_ ?_); first | (with_reducible rfl) | assumption | (simp only [go_sem]; done)))
  refine WK_for (fun n : Nat => ⟨[.s bi 0 2 c, .any, .any, .v (.int .i64 (sz n)), .any, .any, .any, .any, .any, .s bi 0 2 c, .v (.int .i64 (2 : Nat)), .v (.int .i64 n)] ++ junk 24, H⟩) (fun n => n ≤ 2) (fun n => 2 - n) 0 ?_ (by omega) fun n hn => ?_
  · rw [sz0]; exact Weak.slots (by simp [go_sem])
  rcases (show n = 0 ∨ n = 1 ∨ n = 2 by omega) with rfl | rfl | rfl
  · have f0 : ((sz 0 : Int) + (la.length : Int) < 0) = False := eq_false (by omega)
    repeat (first | (simp only [go_sem, Int.reduceLT, Int.reduceLE, Int.reduceEq, Int.reduceToNat, y0, z0, hb, hk, c0, hL1, hs1, f0, Nat.zero_mul, Nat.add_zero, Nat.zero_add]) | ((with_reducible refine And.intro ?_ ?_); omega) | ((with_reducible refine And.intro ?_ ?_); first | (with_reducible rfl) | assumption | (simp only [go_sem]; done)))
    refine EK_again 1 ?_ (by omega) (by omega)
    have e : ((sz 1 : Nat) : Int) = (sz 0 : Int) + (la.length : Int) := by rw [sz0, sz1]; omega
    rw [e]
    exact Weak.slots (by simp [go_sem])
  · have f0 : ((sz 1 : Int) + (lb.length : Int) < 0) = False := eq_false (by omega)
    repeat (first | (simp only [go_sem, Int.reduceLT, Int.reduceLE, Int.reduceEq, Int.reduceToNat, y1, z1, hb, hk, c1, hL2, hs2, f0, Nat.one_mul, Nat.zero_add]) | ((with_reducible refine And.intro ?_ ?_); omega) | ((with_reducible refine And.intro ?_ ?_); first | (with_reducible rfl) | assumption | (simp only [go_sem]; done)))
    refine EK_again 2 ?_ (by omega) (by omega)
    have e : ((sz 2 : Nat) : Int) = (sz 1 : Int) + (lb.length : Int) := by rw [sz1, sz2]; omega
    rw [e]
    exact Weak.slots (by simp [go_sem])
  repeat (first | (simp only [go_sem, Int.reduceLT, Int.reduceLE, Int.reduceEq, Int.reduceToNat, y2, sz2]) | ((with_reducible refine And.intro ?_ ?_); omega) | ((with_reducible refine isSK ?_); first | (refine call_ret (growNil (by omega) (by omega)) (by simp only [go_sem, Int.reduceLT, Int.reduceLE, Int.reduceEq, Int.reduceToNat, y2, sz2]) ?_)) | ((with_reducible refine And.intro ?_ ?_); first | (with_reducible rfl) | assumption | (simp only [go_sem]; done)))
  refine WK_for (fun n : Nat => ⟨[.any, .any, .any, .any, .any, .any, .s H.length 0 (sz n) (.i 0), .any, .any, .any, .any, .any, .any, .any, .any, .any, .any, .any, .any, .any, .any, .any, .any, .any, .any, .s bi 0 2 c, .v (.int .i64 (2 : Nat)), .v (.int .i64 n)] ++ junk 8, H ++ [⟨rw_ n, 42, .own 3⟩]⟩) (fun n => n ≤ 2) (fun n => 2 - n) 0 ?_ (by omega) fun n hn => ?_
  · rw [rw0, sz0, zK_add]
    exact Weak.slots (by simp [go_sem])
  rcases (show n = 0 ∨ n = 1 ∨ n = 2 by omega) with rfl | rfl | rfl
  · obtain ⟨i, off, c', b, rfl, hat, hfit⟩ := h1.full h0
    have hlt := hat.lt
    have g2 : ∀ L : List Blk, (H ++ L)[i]? = some b := fun L => get_app hat.get
    have hsg : seg b.cells off (la.length * 3) = la.flatMap encK := by have := hat.sg; rwa [flat_encK.flen] at this
    have hwr : wr (zK la.length ++ zK lb.length) 0 (la.flatMap encK) = la.flatMap encK ++ zK lb.length := by
      rw [wr_app (by rw [zK_len, flat_encK.flen]; omega), wr_whole _ _ (by rw [zK_len, flat_encK.flen])]
    have hll : (zK la.length ++ zK lb.length).length = la.length * 3 + lb.length * 3 := by rw [List.length_append, zK_len, zK_len]
    have hfl := flat_encK.flen la
    have hd : (i = H.length) = False := eq_false (by omega)
    rw [flat_encK.flen] at hfit
    repeat (first | (simp only [go_sem, Int.reduceLT, Int.reduceLE, Int.reduceEq, Int.reduceToNat, y0, z0, gb, hk, c0, g2, hat.live, hlt, hsg, hfl, hd, rw0, sz0, hwr, hll, Nat.zero_mul, Nat.add_zero, Nat.zero_add]) | ((with_reducible refine And.intro ?_ ?_); omega) | ((with_reducible refine And.intro ?_ ?_); first | (with_reducible rfl) | assumption | (simp only [go_sem]; done)))
    refine EK_again 1 ?_ (by omega) (by omega)
    rw [rw1, sz1]
    exact Weak.slots (by simp [go_sem])
  · obtain ⟨i, off, c2, b, rfl, hat, hfit⟩ : ∃ i off c2 b, w = .s i off lb.length c2 ∧ At H i off (lb.flatMap encK) b ∧ off + (lb.flatMap encK).length ≤ b.cells.length := h2.full h02
    have hlt := hat.lt
    have g2 : ∀ L : List Blk, (H ++ L)[i]? = some b := fun L => get_app hat.get
    have hsg : seg b.cells off (lb.length * 3) = lb.flatMap encK := by have := hat.sg; rwa [flat_encK.flen] at this
    have hfl := flat_encK.flen lb
    have hwr : wr (la.flatMap encK ++ zK lb.length) (la.length * 3) (lb.flatMap encK) = la.flatMap encK ++ lb.flatMap encK := by
      rw [wr_at (m := 0) _ (by rw [flat_encK.flen]; omega), wr_whole _ _ (by rw [zK_len, flat_encK.flen])]
    have hll : (la.flatMap encK ++ zK lb.length).length = la.length * 3 + lb.length * 3 := by rw [List.length_append, zK_len, flat_encK.flen]
    have hd : (i = H.length) = False := eq_false (by omega)
    rw [flat_encK.flen] at hfit
    repeat (first | (simp only [go_sem, Int.reduceLT, Int.reduceLE, Int.reduceEq, Int.reduceToNat, y1, z1, gb, hk, c1, g2, hat.live, hlt, hsg, hfl, hd, rw1, sz1, hwr, hll, Nat.one_mul, Nat.zero_mul, Nat.add_zero, Nat.zero_add]) | ((with_reducible refine And.intro ?_ ?_); omega) | ((with_reducible refine And.intro ?_ ?_); first | (with_reducible rfl) | assumption | (simp only [go_sem]; done)))
    refine EK_again 2 ?_ (by omega) (by omega)
    rw [rw2, sz2]
    exact Weak.slots (by simp [go_sem])
  repeat (first | (simp only [go_sem, Int.reduceLT, Int.reduceLE, Int.reduceEq, Int.reduceToNat, y2, sz2, rw2]) | ((with_reducible refine And.intro ?_ ?_); omega) | ((with_reducible refine And.intro ?_ ?_); first | (with_reducible rfl) | assumption | (simp only [go_sem]; done)))
  refine ret_at hq _ (.inl rfl) (by simp) ?_
  simp [go_sem]
theorem concat1 {H : List Blk} {bi : Nat} {c : Cap} {v : V} {la lb : List (Nat → Int)} {wi wo wc wl : Nat} {ty : TypeId} {kd : BK} (hb : H[bi]? = some ⟨[v, (.e wi wo wc wl 3)], ty, kd⟩) (hk : kd.live = true) (h1 : Rd H v encK la) (hlb0 : lb = []) (h0 : 0 < la.length) (hl : la.length ≤ 1000) (hl2 : lb.length ≤ 1000) :
    Cal Tryz.prog 65 [.s bi 0 2 c] H fun u H' => u = .s H.length 0 (la.length + lb.length) (.i 0) ∧ H' = H ++ [⟨(la ++ lb).flatMap encK, 42, .own 3⟩] := by
  have hL1 := h1.lenV (P := Tryz.prog) slTy25
  have hL2 : lenV Tryz.prog 25 (.e wi wo wc wl 3) = some (True, .v (.int .i64 (lb.length : Int))) := by rw [hlb0]; exact lenV_e _ _ _ _ _ _ _ slTy25
  have hs2 : V.solid (.e wi wo wc wl 3) = true := rfl
  have hblt := (List.getElem?_eq_some_iff.1 hb).1
  have gb : ∀ L : List Blk, (H ++ L)[bi]? = some ⟨[v, (.e wi wo wc wl 3)], ty, kd⟩ := fun L => get_app hb
  have hs1 := h1.solid
  let sz : Nat → Nat := fun n => if n = 0 then 0 else if n = 1 then la.length else la.length + lb.length
  have sz0 : sz 0 = 0 := rfl
  have sz1 : sz 1 = la.length := rfl
  have sz2 : sz 2 = la.length + lb.length := rfl
  let rw_ : Nat → List V := fun n => if n = 0 then zK la.length ++ zK lb.length else if n = 1 then la.flatMap encK ++ zK lb.length else la.flatMap encK ++ lb.flatMap encK
  have rw0 : rw_ 0 = zK la.length ++ zK lb.length := rfl
  have rw1 : rw_ 1 = la.flatMap encK ++ zK lb.length := rfl
  have rw2 : rw_ 2 = la.flatMap encK ++ lb.flatMap encK := rfl
  clear_value sz rw_
  have c0 : cel [v, (.e wi wo wc wl 3)] 0 = v := rfl
  have c1 : cel [v, (.e wi wo wc wl 3)] 1 = (.e wi wo wc wl 3) := rfl
  have z0 : ((0 : Nat) : Int).toNat = 0 := rfl
  have z1 : ((1 : Nat) : Int).toNat = 1 := rfl
  have y0 : (((0 : Nat) : Int) < ((2 : Nat) : Int)) = True := eq_true (by omega)
  have y1 : (((1 : Nat) : Int) < ((2 : Nat) : Int)) = True := eq_true (by omega)
  have y2 : (((2 : Nat) : Int) < ((2 : Nat) : Int)) = False := eq_false (by omega)
  refine cal_fn 35 mixed Tryz.func65 Tryz.ntmps65 Tryz.results65 rfl rfl rfl fun hw cx hx hq => ?_
  repeat (first | (simp only [go_sem, Int.reduceLT, Int.reduceLE, Int.reduceEq, Int.reduceToNat]) | ((with_reducible refine And.intro ?_ ?_); omega) | ((with_reducible refine And.intro ?_ ?_); first | (with_reducible rfl) | assumption | (simp only [go_sem]; done)))
  refine WK_for (fun n : Nat => ⟨[.s bi 0 2 c, .any, .any, .v (.int .i64 (sz n)), .any, .any, .any, .any, .any, .s bi 0 2 c, .v (.int .i64 (2 : Nat)), .v (.int .i64 n)] ++ junk 24, H⟩) (fun n => n ≤ 2) (fun n => 2 - n) 0 ?_ (by omega) fun n hn => ?_
  · rw [sz0]; exact Weak.slots (by simp [go_sem])
  rcases (show n = 0 ∨ n = 1 ∨ n = 2 by omega) with rfl | rfl | rfl
  · have f0 : ((sz 0 : Int) + (la.length : Int) < 0) = False := eq_false (by omega)
    repeat (first | (simp only [go_sem, Int.reduceLT, Int.reduceLE, Int.reduceEq, Int.reduceToNat, y0, z0, hb, hk, c0, hL1, hs1, f0, Nat.zero_mul, Nat.add_zero, Nat.zero_add]) | ((with_reducible refine And.intro ?_ ?_); omega) | ((with_reducible refine And.intro ?_ ?_); first | (with_reducible rfl) | assumption | (simp only [go_sem]; done)))
    refine EK_again 1 ?_ (by omega) (by omega)
    have e : ((sz 1 : Nat) : Int) = (sz 0 : Int) + (la.length : Int) := by rw [sz0, sz1]; omega
    rw [e]
    exact Weak.slots (by simp [go_sem])
  · have f0 : ((sz 1 : Int) + (lb.length : Int) < 0) = False := eq_false (by omega)
    repeat (first | (simp only [go_sem, Int.reduceLT, Int.reduceLE, Int.reduceEq, Int.reduceToNat, y1, z1, hb, hk, c1, hL2, hs2, f0, Nat.one_mul, Nat.zero_add]) | ((with_reducible refine And.intro ?_ ?_); omega) | ((with_reducible refine And.intro ?_ ?_); first | (with_reducible rfl) | assumption | (simp only [go_sem]; done)))
    refine EK_again 2 ?_ (by omega) (by omega)
    have e : ((sz 2 : Nat) : Int) = (sz 1 : Int) + (lb.length : Int) := by rw [sz1, sz2]; omega
    rw [e]
    exact Weak.slots (by simp [go_sem])
  repeat (first | (simp only [go_sem, Int.reduceLT, Int.reduceLE, Int.reduceEq, Int.reduceToNat, y2, sz2]) | ((with_reducible refine And.intro ?_ ?_); omega) | ((with_reducible refine isSK ?_); first | (refine call_ret (growNil (by omega) (by omega)) (by simp only [go_sem, Int.reduceLT, Int.reduceLE, Int.reduceEq, Int.reduceToNat, y2, sz2]) ?_)) | ((with_reducible refine And.intro ?_ ?_); first | (with_reducible rfl) | assumption | (simp only [go_sem]; done)))
  refine WK_for (fun n : Nat => ⟨[.any, .any, .any, .any, .any, .any, .s H.length 0 (sz n) (.i 0), .any, .any, .any, .any, .any, .any, .any, .any, .any, .any, .any, .any, .any, .any, .any, .any, .any, .any, .s bi 0 2 c, .v (.int .i64 (2 : Nat)), .v (.int .i64 n)] ++ junk 8, H ++ [⟨rw_ n, 42, .own 3⟩]⟩) (fun n => n ≤ 2) (fun n => 2 - n) 0 ?_ (by omega) fun n hn => ?_
  · rw [rw0, sz0, zK_add]
    exact Weak.slots (by simp [go_sem])
  rcases (show n = 0 ∨ n = 1 ∨ n = 2 by omega) with rfl | rfl | rfl
  · obtain ⟨i, off, c', b, rfl, hat, hfit⟩ := h1.full h0
    have hlt := hat.lt
    have g2 : ∀ L : List Blk, (H ++ L)[i]? = some b := fun L => get_app hat.get
    have hsg : seg b.cells off (la.length * 3) = la.flatMap encK := by have := hat.sg; rwa [flat_encK.flen] at this
    have hwr : wr (zK la.length ++ zK lb.length) 0 (la.flatMap encK) = la.flatMap encK ++ zK lb.length := by
      rw [wr_app (by rw [zK_len, flat_encK.flen]; omega), wr_whole _ _ (by rw [zK_len, flat_encK.flen])]
    have hll : (zK la.length ++ zK lb.length).length = la.length * 3 + lb.length * 3 := by rw [List.length_append, zK_len, zK_len]
    have hfl := flat_encK.flen la
    have hd : (i = H.length) = False := eq_false (by omega)
    rw [flat_encK.flen] at hfit
    repeat (first | (simp only [go_sem, Int.reduceLT, Int.reduceLE, Int.reduceEq, Int.reduceToNat, y0, z0, gb, hk, c0, g2, hat.live, hlt, hsg, hfl, hd, rw0, sz0, hwr, hll, Nat.zero_mul, Nat.add_zero, Nat.zero_add]) | ((with_reducible refine And.intro ?_ ?_); omega) | ((with_reducible refine And.intro ?_ ?_); first | (with_reducible rfl) | assumption | (simp only [go_sem]; done)))
    refine EK_again 1 ?_ (by omega) (by omega)
    rw [rw1, sz1]
    exact Weak.slots (by simp [go_sem])
  · skip
    have hwr : wr (la.flatMap encK ++ zK 0) (la.length * 3) [] = la.flatMap encK := by
      rw [wr_at (m := 0) _ (by rw [flat_encK.flen]; omega)]; simp [wr, zK]
    have hll : (la.flatMap encK ++ zK 0).length = la.length * 3 := by rw [List.length_append, zK_len, flat_encK.flen]; omega
    subst hlb0
    rw [List.length_nil] at rw1
    repeat (first | (simp only [go_sem, Int.reduceLT, Int.reduceLE, Int.reduceEq, Int.reduceToNat, y1, z1, gb, hk, c1, rw1, sz1, hwr, hll, Nat.one_mul, Nat.zero_mul, Nat.add_zero, Nat.zero_add]) | ((with_reducible refine And.intro ?_ ?_); omega) | ((with_reducible refine And.intro ?_ ?_); first | (with_reducible rfl) | assumption | (simp only [go_sem]; done)))
    refine EK_again 2 ?_ (by omega) (by omega)
    rw [rw2, sz2, List.flatMap_nil, List.append_nil, List.length_nil, Nat.add_zero]
    exact Weak.slots (by simp [go_sem])
  repeat (first | (simp only [go_sem, Int.reduceLT, Int.reduceLE, Int.reduceEq, Int.reduceToNat, y2, sz2, rw2]) | ((with_reducible refine And.intro ?_ ?_); omega) | ((with_reducible refine And.intro ?_ ?_); first | (with_reducible rfl) | assumption | (simp only [go_sem]; done)))
  refine ret_at hq _ (.inl rfl) (by simp) ?_
  simp [go_sem]
end Go.Proofs.YtcebmjajnbafoaaGreatDoor
