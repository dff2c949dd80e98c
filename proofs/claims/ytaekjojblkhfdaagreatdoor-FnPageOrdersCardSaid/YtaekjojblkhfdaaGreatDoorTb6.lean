/- Contracts of functions of the translated program, by the walk. -/
import Derived.Test.YtaekjojblkhfdaaGreatDoorRd5n
import Derived.Test.YtaekjojblkhfdaaGreatDoorDt5
import Derived.Test.YtaekjojblkhfdaaGreatDoorLD
import Derived.Test.YtaekjojblkhfdaaGreatDoorC6
import Derived.Test.YtaekjojblkhfdaaGreatDoorNp2
import Derived.Test.YtaekjojblkhfdaaGreatDoorDr1
import Derived.Test.YtaekjojblkhfdaaGreatDoorPo1
set_option linter.unusedVariables false
set_option linter.unusedSimpArgs false
set_option maxRecDepth 8000
set_option maxHeartbeats 16000000
namespace Go.Proofs.YtaekjojblkhfdaaGreatDoor
open Go Go.Sx
theorem implReadOrder_ok {H : List Blk} (hp : PinR H) {t : List Int} (h8 : B8 t) (hl : t.length ≤ 1000000) (hO : roOk t = true) :
    Cal Tryz.prog 7 [.v (.string (bstr t))] H fun u H' => u = .t [.s H.length 0 (roV t).length (.u 0), .v (.int .i64 0)] ∧ H' = H ++ [⟨(roV t).flatMap i64C, 2, .own 1⟩] := by
  have eV : roV t = (wds t).map wVt := if_pos hO
  have hO2 := hO
  unfold roOk at hO2
  simp only [Bool.and_eq_true, decide_eq_true_eq, List.all_eq_true] at hO2
  by_cases h0 : t = []
  · subst h0
    rw [eV]
    refine cal_fn 34 mixed Tryz.func7 Tryz.ntmps7 Tryz.results7 rfl rfl rfl fun hw cx hx hq => ?_
    repeat (first | (simp only [go_sem, Int.reduceLT, Int.reduceLE, Int.reduceEq, Int.reduceToNat]) | ((with_reducible refine isSK ?_); refine call_ret (wordsNil) ?_ ?_) )
    refine WK_for (fun n : Nat => ⟨[.any, .any, .any, .any, .s H.length 0 0 (.u 0), .any, .any, .any, .any, .any, .any, .v (.slice none 0 0), .v (.int .i64 0), .v (.int .i64 0)] ++ junk 21, H ++ [⟨[], 2, .own 1⟩]⟩) (fun n => n = 0) (fun n => 0) 0 (Weak.slots ?_) rfl fun n hn => ?_
    · simp [go_sem]
    repeat ((simp only [go_sem, Int.reduceLT, Int.reduceLE, Int.reduceEq, Int.reduceToNat]) )
    refine ret_at hq _ (.inl rfl) (by simp) ?_
    simp [go_sem, wds]
  rw [eV]
  have hn0 : ((bstr t).toList = (bstr []).toList) = False := eq_false (by rw [bstr_toL, bstr_toL]; intro h; exact h0 (u8L_inj h8 (fun x hx => by cases hx) h))
  have hwl := wds_len t
  have h8w := wds_8 h8
  have hlw := wds_wlen t
  obtain ⟨W, hW⟩ : ∃ W, W = wds t := ⟨_, rfl⟩
  rw [← hW] at hwl h8w hlw
  refine cal_fn 34 mixed Tryz.func7 Tryz.ntmps7 Tryz.results7 rfl rfl rfl fun hw cx hx hq => ?_
  repeat (first | (simp only [go_sem, Int.reduceLT, Int.reduceLE, Int.reduceEq, Int.reduceToNat, ← hW]) | ((with_reducible refine isSK ?_); refine call_ret (wordsC (by exact hp.app) h8 hl h0) ?_ ?_) )
  have hn1 : norefH H.length H := norefH_wf hw (Nat.le_refl _)
  refine WK_for (fun n : Nat => ⟨[.any, .any, .any, .any, .s H.length 0 n (.u 0), .any, .any, .any, .any, .any, .any, .s (H.length + 1) 0 W.length (.u 0), .v (.int .i64 W.length), .v (.int .i64 n)] ++ junk 21, H ++ [⟨((W.take n).map wVt).flatMap i64C, 2, .own 1⟩, ⟨W.flatMap sC, 9, .own 1⟩]⟩) (fun n => n ≤ W.length) (fun n => W.length - n) 0 (Weak.slots ?_) ?_ fun n hn => ?_
  · simp [go_sem]
  · simp
  have hfl : (((W.take n).map wVt).flatMap i64C).length = n := by rw [flat_i64.flen, Nat.mul_one, List.length_map, List.length_take]; omega
  have hfw : (W.flatMap sC).length = W.length := by rw [flat_sC.flen, Nat.mul_one]
  have hn2 : norefs H.length (((W.take n).map wVt).flatMap i64C) = true := flat_i64.norefs _ _
  have hn3 : norefs H.length (W.flatMap sC) = true := flat_sC.norefs _ _
  have hd1 : (H.length + 1 = H.length) = False := eq_false (by omega)
  have hd2 : (H.length = H.length + 1) = False := eq_false (by omega)
  rw [← hW] at hO2
  rcases Int.lt_or_le (n : Int) W.length with hc | hc
  · skip
    have hj : n < W.length := by omega
    have hwm := List.getElem_mem hj
    have hat : At (H ++ [⟨((W.take n).map wVt).flatMap i64C, 2, .own 1⟩, ⟨W.flatMap sC, 9, .own 1⟩]) (H.length + 1) 0 (W.flatMap sC) ⟨W.flatMap sC, 9, .own 1⟩ := by exact At.mk' 1 rfl rfl 
    have hz := hat.str hj
    simp only [Nat.zero_add] at hz
    have hrd := rd_wB W[n]
    have eb := hO2.2 _ hwm
    have hrv := rd_wV eb
    rw [eb] at hrd
    have e4 : ((n : Int) = 40) = False := eq_false (by omega)
    have e3 := map_i64 W n hj
    repeat (first | (simp only [go_sem, Int.reduceLT, Int.reduceLE, Int.reduceEq, Int.reduceToNat, hc, hz, hfl, hfw, hrd, hrv, e4, hn1, hn2, hn3, hd1, hd2, hx]) | ((with_reducible refine And.intro ?_ ?_); omega) | ((with_reducible refine isSK ?_); refine call_ret (readDec (by exact hp.app) (h8w _ hwm) (Nat.le_trans (hlw _ hwm) hl) (by omega) (by omega)) ?_ ?_) )
    refine EK_again (n + 1) ?_ (by omega) (by omega)
    rw [e3]
    exact Weak.keepN rfl (by simp [go_sem] <;> omega) (by simp [hx]) (by simp [go_sem, flat_sC.lts, flat_i64.lts, sC] <;> omega) (hw.app (by simp [go_sem, flat_sC.lts, flat_i64.lts, sC] <;> omega))
  · have : n = W.length := by omega
    subst this
    rw [List.take_length] at hfl hn2 ⊢
    repeat ((simp only [go_sem, Int.reduceLT, Int.reduceLE, Int.reduceEq, Int.reduceToNat, Int.not_lt.2 hc, hfl, hfw]) )
    refine ret_one hq hw _ (.inl rfl) 0 rfl (of_eq_true (flat_i64.lts _ _)) (.t [.s H.length 0 (W.map wVt).length (.u 0), .v (.int .i64 0)]) (by simp [go_sem]) ?_
    simp [go_sem, conc, concs, upσ, Cap.val, hW]
end Go.Proofs.YtaekjojblkhfdaaGreatDoor
namespace Go.Proofs.YtaekjojblkhfdaaGreatDoor
open Go Go.Sx
theorem spl_one {c : Int} {t : List Int} (h : c ∉ t) : spl c t = [t] := by
  rcases spl_view c t with ⟨_, e⟩ | ⟨l, r, e, _, _⟩
  · exact e
  · exact absurd (by rw [e]; simp) h
theorem spl_jn : ∀ (ws : List (List Int)), ws ≠ [] → (∀ w ∈ ws, (32 : Int) ∉ w) → spl 32 (jnT [32] ws) = ws
  | [], h, _ => absurd rfl h
  | [w], _, h => by rw [jnT_one]; exact spl_one (h w (by simp))
  | w :: x :: ws, _, h => by
    have ih := spl_jn (x :: ws) (by simp) fun y hy => h y (List.mem_cons_of_mem _ hy)
    have e : jnT [32] (w :: x :: ws) = w ++ 32 :: jnT [32] (x :: ws) := by simp [jnT]
    rw [e, spl_cons (h w (by simp)), ih]
theorem order_ok {o : List Int} {n : Nat} (ho : OrdP o n) (hn : n ≤ 6) : okO o := fun k hk => by
  have := ho.2.1 k hk; omega
theorem order_w {o : List Int} {n : Nat} (ho : OrdP o n) (hn : n ≤ 6) : ∀ w ∈ ordL o, ∃ k : Nat, k < 6 ∧ w = [((48 + k : Nat) : Int)] := fun w hw => by
  obtain ⟨k, hk, rfl⟩ := List.mem_map.1 hw
  have := ho.2.1 k hk
  exact ⟨k.toNat, by omega, decT_small (by omega)⟩
theorem order_back {o : List Int} {n : Nat} (ho : OrdP o n) (hn : n ≤ 6) : roOk (otT o) = true ∧ roV (otT o) = o := by
  have hok := order_ok ho hn
  have hl := ho.1
  have e : otT o = ordT o := by unfold otT; rw [if_pos ⟨hok, by omega⟩]
  rw [e]
  by_cases h0 : o = []
  · subst h0
    exact ⟨rfl, rfl⟩
  have hL0 : ordL o ≠ [] := fun hh => h0 (List.map_eq_nil_iff.1 hh)
  have hs : spl 32 (ordT o) = ordL o := spl_jn (ordL o) hL0 fun w hw hh => by
    obtain ⟨k, hk, rfl⟩ := order_w ho hn w hw
    rw [List.mem_singleton] at hh; omega
  have hne : ordT o ≠ [] := fun hh => by
    rw [hh] at hs
    have e4 : spl 32 [] = [[]] := rfl
    rw [e4] at hs
    obtain ⟨k, _, hk⟩ := order_w ho hn [] (by rw [← hs]; simp)
    cases hk
  have hw : wds (ordT o) = ordL o := by unfold wds; rw [if_neg hne, hs]
  have hb : (ordL o).all wBt = true := by
    rw [List.all_eq_true]
    intro w hw
    obtain ⟨k, hk, rfl⟩ := List.mem_map.1 hw
    have := hok k hk
    exact wB_iff.2 ⟨k.toNat, by have := ho.2.1 k hk; omega, rfl⟩
  have hO : roOk (ordT o) = true := by
    unfold roOk
    rw [hw, hb, ordL_len, Bool.and_true]
    exact decide_eq_true (by omega)
  refine ⟨hO, ?_⟩
  unfold roV
  rw [if_pos hO, hw]
  unfold ordL
  rw [List.map_map]
  conv => rhs; rw [← List.map_id o]
  refine List.map_congr_left fun k hk => ?_
  have h1 := ho.2.1 k hk
  show wVt (decT k.toNat) = k
  rw [wV_dec (by omega)]; omega
theorem order_8 {o : List Int} {n : Nat} (ho : OrdP o n) (hn : n ≤ 6) : B8 (otT o) ∧ (otT o).length ≤ 120 := by
  have hok := order_ok ho hn
  have hl := ho.1
  have e : otT o = ordT o := by unfold otT; rw [if_pos ⟨hok, by omega⟩]
  rw [e]
  refine ⟨?_, by have := ordT_len hok; omega⟩
  have : ∀ ws : List (List Int), (∀ w ∈ ws, B8 w) → B8 (jnT [32] ws) := fun ws h x hx => by
    cases ws with
    | nil => cases hx
    | cons w r =>
      rcases List.mem_append.1 hx with hx | hx
      · exact h w (by simp) x hx
      · obtain ⟨y, hy, hx⟩ := List.mem_flatMap.1 hx
        rcases List.mem_append.1 hx with hx | hx
        · rw [List.mem_singleton.1 hx]; omega
        · exact h y (List.mem_cons_of_mem _ hy) x hx
  exact this _ fun w hw => by
    obtain ⟨k, _, rfl⟩ := List.mem_map.1 hw
    exact decT_8 _
end Go.Proofs.YtaekjojblkhfdaaGreatDoor
namespace Go.Proofs.YtaekjojblkhfdaaGreatDoor
open Go Go.Sx
theorem decimalP {H : List Blk} (hp : Pow H) {i : Nat} (hi : i < 100) : Cal Tryz.prog 36 [.v (.int .i64 i)] H fun u H' => u = .v (.string (bstr (decT i))) ∧ H' = H := by
  have := decimalG hp (i := (i : Int)) (by omega) (by omega)
  rwa [decI_nat] at this
theorem implOrderText {H : List Blk} {v : V} {l : List Int} (hp : Pow H) (h : Rd H v i64C l) (hl : l.length ≤ 1000000) :
    Cal Tryz.prog 8 [v] H fun u H' => u = .v (.string (bstr (otT l))) ∧ H' = H := by
  have hsol := h.solid
  have hL := h.lenV (P := Tryz.prog) slTy27
  refine cal_fn 26 mixed Tryz.func8 Tryz.ntmps8 Tryz.results8 rfl rfl rfl fun hw cx hx hq => ?_
  repeat ((simp only [go_sem, Int.reduceLT, Int.reduceLE, Int.reduceEq, Int.reduceToNat, hsol, hL, bs0]) )
  refine WK_for (fun n : Nat => ⟨[.any, .any, .any, .s H.length 0 n (.u 0), .any, .any, .any, v, .v (.int .i64 l.length), .v (.int .i64 n)] ++ junk 17, H ++ [⟨(ordL (l.take n)).flatMap sC, 9, .own 1⟩]⟩) (fun n => n ≤ l.length ∧ okO (l.take n)) (fun n => l.length - n) 0 (Weak.slots ?_) ?_ fun n hn => ?_
  · simp [go_sem, ordL_nil]
  · simp [okO]
  have hfl : ((ordL (l.take n)).flatMap sC).length = n := by rw [flat_sC.flen, Nat.mul_one, ordL_len, List.length_take]; omega
  have hn1 : norefH H.length H := norefH_wf hw (Nat.le_refl _)
  have hn2 : norefs H.length ((ordL (l.take n)).flatMap sC) = true := flat_sC.norefs _ _
  have hd1 : (H.length + 1 = H.length) = False := eq_false (by omega)
  rcases Int.lt_or_le (n : Int) l.length with hc | hc
  · have hj : n < l.length := by omega
    obtain ⟨i, off, c, b, rfl, hat⟩ := h.row (by omega)
    have hil := hat.lt
    have hij : (i = H.length) = False := eq_false (by omega)
    have hll := hat.len (by rw [flat_i64.flen]; omega)
    rw [flat_i64.flen] at hll
    have hz := hat.i64 hj
    by_cases e : 0 ≤ l[n] ∧ l[n] ≤ 39
    · obtain ⟨k, hk2⟩ := Int.eq_ofNat_of_zero_le e.1
      have hk3 : k < 100 := by omega
      have hD := decT_len hk3
      have e1 : decide (0 ≤ (k : Int)) = true := decide_eq_true (by omega)
      have e2 : decide ((k : Int) ≤ 39) = true := decide_eq_true (by omega)
      have e3 := ordL_succ hj
      rw [hk2, Int.toNat_natCast] at e3
      rw [hk2] at hz
      repeat (first | (simp only [go_sem, Int.reduceLT, Int.reduceLE, Int.reduceEq, Int.reduceToNat, hc, (get_app hat.get), hat.live, hz, e1, e2, hfl, hn1, hn2, hd1, hx, hij]) | ((with_reducible refine And.intro ?_ ?_); omega) | ((with_reducible refine isSK ?_); first | refine call_ret (inRange) ?_ ?_ | refine call_ret (decimalP hp.app hk3) ?_ ?_) )
      refine EK_again (n + 1) ?_ ⟨by omega, fun x hx2 => ?_⟩ (by omega)
      · rw [e3, List.flatMap_append, List.flatMap_singleton]
        exact Weak.keepN rfl (by simp [go_sem] <;> omega) (by simp [hx]) (by simp [go_sem, hil, flat_sC.lts, sC] <;> omega) (hw.app (by simp [go_sem, hil, flat_sC.lts, sC] <;> omega))
      · rw [List.take_succ_eq_append_getElem hj] at hx2
        rcases List.mem_append.1 hx2 with hx2 | hx2
        · exact hn.2 x hx2
        · rw [List.mem_singleton.1 hx2]; exact e
    · have e1 : (decide (0 ≤ l[n]) && decide (l[n] ≤ 39)) = false := by
        rw [Bool.and_eq_false_iff]
        by_cases e0 : 0 ≤ l[n]
        · exact .inr (decide_eq_false fun e2 => e ⟨e0, e2⟩)
        · exact .inl (decide_eq_false e0)
      have e2 : otT l = [] := if_neg fun hh => e (hh.1 _ (List.getElem_mem hj))
      repeat (first | (simp only [go_sem, Int.reduceLT, Int.reduceLE, Int.reduceEq, Int.reduceToNat, hc, (get_app hat.get), hat.live, hz, e1, hij, bs0]) | ((with_reducible refine And.intro ?_ ?_); omega) | ((with_reducible refine isSK ?_); refine call_ret (inRange) ?_ ?_) )
      refine ret_cut hq hw _ (.inl rfl) ?_
      simp [go_sem, e2]
  · have : n = l.length := by omega
    subst this
    have ho := hn.2
    rw [List.take_length] at ho hfl hn2 ⊢
    have hjl := ordT_len ho
    by_cases h40 : l.length ≤ 40
    · have e1 : ((40 : Int) < (l.length : Int)) = False := eq_false (by omega)
      have e2 : otT l = ordT l := if_pos ⟨ho, h40⟩
      have hjn := join_len [32] (ordL l)
      have hjl2 : (jnT [32] (ordL l)).length ≤ 3 * l.length := hjl
      repeat (first | (simp only [go_sem, Int.reduceLT, Int.reduceLE, Int.reduceEq, Int.reduceToNat, Int.not_lt.2 hc, e1, hfl, bs32]) | ((with_reducible refine isSK ?_); refine call_ret (joinC (xs := ordL l) (sep := [32]) (by exact (Go.Sx.get_at0 _ _).trans rfl ) (by rw [ordL_len]) (.inr rfl) (by omega) (by rw [ordL_len]; omega)) ?_ ?_) )
      refine ret_cut hq hw _ (.inl rfl) ?_
      simp [go_sem, e2, joinT_eq, ordT]
    · have e1 : ((40 : Int) < (l.length : Int)) = True := eq_true (by omega)
      have e2 : otT l = [] := if_neg fun hh => h40 hh.2
      repeat ((simp only [go_sem, Int.reduceLT, Int.reduceLE, Int.reduceEq, Int.reduceToNat, Int.not_lt.2 hc, e1, hfl, bs0]) )
      refine ret_cut hq hw _ (.inl rfl) ?_
      simp [go_sem, e2]
end Go.Proofs.YtaekjojblkhfdaaGreatDoor
namespace Go.Proofs.YtaekjojblkhfdaaGreatDoor
open Go Go.Sx
theorem specOpp_okU {H : List Blk} {w : V} {o : List Int} (h2 : Rd H w i64C o) (hk : KU H w o) (hc : opC o = 0) :
    Cal Tryz.prog 20 [w] H fun u H' => u = .t [.s H.length 0 (opN o o.length).length (.k o.length), .v (.int .i64 0)] ∧ H' = H ++ [⟨(opN o o.length).flatMap i64C, 2, .fix⟩] := by
  have hsol2 := h2.solid
  have hL := h2.lenV (P := Tryz.prog) slTy27
  obtain ⟨hlen, e2⟩ := opC_ok hc
  have ho := isOrd_iff.1 e2
  have b1 : ((40 : Int) < (o.length : Int)) = False := eq_false (by omega)
  have hz := opN_zero o
  rw [opN_len]
  refine cal_fn 32 mixed Tryz.func20 Tryz.ntmps20 Tryz.results20 rfl rfl rfl fun hw cx hx hq => ?_
  repeat (first | (simp only [go_sem, Int.reduceLT, Int.reduceLE, Int.reduceEq, Int.reduceToNat, hsol2, hL, b1, e2, hz]) | ((with_reducible refine And.intro ?_ ?_); omega) | ((with_reducible refine isSK ?_); refine call_ret (l04OrderU (n := o.length) h2 hk (by omega) (by omega)) ?_ ?_) )
  refine WK_for (fun n : Nat => ⟨[w, .any, .any, .any, .s H.length 0 o.length (.k o.length), .v (.int .i64 n)] ++ junk 27, H ++ [⟨(opN o n).flatMap i64C, 2, .fix⟩]⟩) (fun n => n ≤ o.length) (fun n => o.length - n) 0 (Weak.slots ?_) ?_ fun n hn => ?_
  · simp [go_sem]
  · simp
  rcases Int.lt_or_le (n : Int) o.length with hc1 | hc1
  · have hj : n < o.length := by omega
    obtain ⟨i2, off2, c2, b2, rfl, hat2, hfit2⟩ := h2.full (by omega)
    have hcel := hat2.i64 hj
    have hfit := hat2.fits i64C 1 (fun _ => rfl) hj (by omega)
    have hlt2 := hat2.lt
    have g2 : ∀ L : List Blk, (H ++ L)[i2]? = some b2 := fun L => get_app hat2.get
    have hr := ho.2.1 o[n] (List.getElem_mem hj)
    obtain ⟨k, hk2⟩ : ∃ k : Nat, o[n] = k := ⟨o[n].toNat, by omega⟩
    rw [hk2] at hcel hr
    have hkl : k < o.length := by omega
    have hfl : ((opN o n).flatMap i64C).length = o.length := by rw [flat_i64.flen, Nat.mul_one, opN_len]
    have hs := set_i64 (opN o n) k (n : Int) (by rw [opN_len]; exact hkl)
    have hnext : opN o (n + 1) = (opN o n).set k (n : Int) := by
      rw [opN, List.getElem?_eq_getElem hj, Option.getD_some, hk2, Int.toNat_natCast]
    have hd : (i2 = H.length) = False := eq_false (by omega)
    repeat (first | (simp only [go_sem, Int.reduceLT, Int.reduceLE, Int.reduceEq, Int.reduceToNat, hL, hc1, hat2.get, g2, hat2.live, hcel, hfit, hlt2, hfl, hs, hd]) | ((with_reducible refine And.intro ?_ ?_); omega) )
    refine EK_again (n + 1) ?_ (by omega) (by omega)
    rw [hnext]
    exact Weak.slots (by simp [go_sem])
  · have : n = o.length := by omega
    subst this
    repeat ((simp only [go_sem, Int.reduceLT, Int.reduceLE, Int.reduceEq, Int.reduceToNat, hL, Int.not_lt.2 hc1]) )
    refine ret_at hq _ (.inl rfl) (by simp) ?_
    simp [go_sem]
end Go.Proofs.YtaekjojblkhfdaaGreatDoor
namespace Go.Proofs.YtaekjojblkhfdaaGreatDoor
open Go Go.Sx
theorem leX_leI {st : SS} (h : st ≠ none) : leX st = leI st := by
  cases st with
  | none => exact absurd rfl h
  | some q => rfl
theorem implBestOrder_ok {H : List Blk} {v : V} {l : List (Nat → Int)} {p : Int} (h : Rd H v (rowL .u16 12) l) (hR : ∀ f ∈ l, R16 f) (hc : boC l p = 0) :
    Cal Tryz.prog 11 [v, .v (.int .i64 p)] H fun u H' => u = .t [.s H.length 0 l.length (.u 0), .v (.int .i64 (leI (boS l p))), .v (.int .i64 0)] ∧ H' = H ++ [⟨(beL (boS l p)).flatMap i64C, 2, .own 1⟩] := by
  obtain ⟨h1, h2, h3, h4, h5⟩ := boC_ok hc
  have h12 := okB_12 h1 hR
  have e4 : ((8 : Int) < l.length) = False := eq_false (by omega)
  have e5 : ((l.length : Int) = 0) = False := eq_false (by omega)
  have hbl := boB_len p
  have hI := boI hc
  have hsn := boS_some hc
  obtain ⟨ib, offb, cb, bb, rfl, hat, hf⟩ := h.full (by omega)
  have hfr0 := Flat.flen (flat_rowL .u16 12) l
  rw [hfr0] at hf
  have hibl := hat.lt
  have hfr : ∀ {H : List Blk} {i0 bs : Nat} {cv : Cap} {b : Blk} (_ : At H i0 0 ((boB p).flatMap i64C) b) (_ : i0 ≠ bs) (_ : At H ib offb (l.flatMap (rowL .u16 12)) bb) (_ : ib ≠ bs) (_ : H[bs]? = some ⟨[.s ib offb l.length cb, .v (.slice none 0 0), .v (.int .i64 0)], 71, .fix⟩), Cal Tryz.prog 44 [.p bs 0, .s i0 0 (boB p).length cv, .v (.int .i64 0)] H fun u H' => u = .t [] ∧ H' = H.set bs ⟨[.s ib offb l.length cb, .s H.length 0 l.length (.u 0), .v (.int .i64 (leI (boS l p)))], 71, .fix⟩ ++ [⟨(beL (boS l p)).flatMap i64C, 2, .own 1⟩] := fun a1 a2 a3 a4 a5 => by
    have := from_ok (l := l) rfl h4 h5 h12 (l.length - (boB p).length) (s := 0) (st := none) (cv := ‹Cap›) a1 (by have := a1.len0; rw [flat_i64.flen] at this; omega) a2 hI (by omega) (by omega) (by omega) (fun b x e => by cases e) a3 hf a4 a5 rfl
    have e : srch l l.length (l.length - (boB p).length) (boB p) 0 none = boS l p := rfl
    rw [e, hpS_new hsn, leX_leI hsn] at this
    exact this
  by_cases hp : 0 ≤ p
  · have ep : (0 ≤ p) = True := eq_true hp
    have hB : boB p = [p] := if_pos hp
    have c1 : (p = -1) = False := eq_false (by omega)
    have c2 : (p ≤ (l.length : Int) - 1) = True := eq_true h3
    simp only [hB, List.length_singleton, List.length_nil] at hfr
    refine cal_fn 49 mixed Tryz.func11 Tryz.ntmps11 Tryz.results11 rfl rfl rfl fun hw cx hx hq => ?_
    have hn1 : norefH (H.length + 1) H := norefH_wf hw (by omega)
    have hd1 : (H.length + 1 = H.length) = False := eq_false (by omega)
    have hd2 : (H.length = H.length + 1) = False := eq_false (by omega)
    have hib : (ib = H.length + 1) = False := eq_false (by omega)
    have hib2 : (ib < H.length + 1) = True := eq_true (by omega)
    repeat (first | (simp only [go_sem, Int.reduceLT, Int.reduceLE, Int.reduceEq, Int.reduceToNat, hat.get, h1, c1, c2, decide_true, Bool.and_self, e4, e5, ep, hn1, hx, hd1, hd2, hib, hib2, List.length_singleton]) | ((with_reducible refine And.intro ?_ ?_); omega) | ((with_reducible refine isSK ?_); first | refine call_ret (validBook h (by omega)) ?_ ?_ | refine call_ret (isPage h (by omega)) ?_ ?_ | refine call_ret (hfr (by exact At.mk' 1 rfl rfl ) (by omega) hat.app (by omega) (by exact (Go.Sx.get_at0 _ _).trans rfl )) ?_ ?_) | ((with_reducible refine isWKr (id := 14) ?_); refine WK_drawAt 14 [[],[0],[0,1],[0,1,2],[],[4],[4,5],[4,5,6],[0,1,2,3],[0,1,2,3,4,5,6,7,8],[0,1,2,3,4,5,6,7,8,9]] (by kernel_rfl) ?_) )
    refine ret_one hq hw _ (.inl rfl) 3 rfl (by rw [flat_i64.lts]; trivial) (.t [.s H.length 0 l.length (.u 0), .v (.int .i64 (leI (boS l p))), .v (.int .i64 0)]) (by simp [go_sem] <;> rfl) ?_
    simp [go_sem, conc, concs, upσ, Cap.val]
  · have ep : (0 ≤ p) = False := eq_false hp
    have hB : boB p = [] := if_neg hp
    obtain rfl : p = -1 := by omega
    simp only [hB, List.length_singleton, List.length_nil] at hfr
    refine cal_fn 49 mixed Tryz.func11 Tryz.ntmps11 Tryz.results11 rfl rfl rfl fun hw cx hx hq => ?_
    have hn1 : norefH (H.length + 1) H := norefH_wf hw (by omega)
    have hd1 : (H.length + 1 = H.length) = False := eq_false (by omega)
    have hd2 : (H.length = H.length + 1) = False := eq_false (by omega)
    have hib : (ib = H.length + 1) = False := eq_false (by omega)
    have hib2 : (ib < H.length + 1) = True := eq_true (by omega)
    repeat (first | (simp only [go_sem, Int.reduceLT, Int.reduceLE, Int.reduceEq, Int.reduceToNat, hat.get, h1, e4, e5, ep, hn1, hx, hd1, hd2, hib, hib2, List.length_singleton]) | ((with_reducible refine isSK ?_); first | refine call_ret (validBook h (by omega)) ?_ ?_ | refine call_ret (hfr (by exact At.mk' 1 rfl rfl ) (by omega) hat.app (by omega) (by exact (Go.Sx.get_at0 _ _).trans rfl )) ?_ ?_) | ((with_reducible refine isWKr (id := 14) ?_); refine WK_drawAt 14 [[],[0],[0,1],[0,1,2],[],[4],[4,5],[4,5,6],[0,1,2,3],[0,1,2,3,4,5,6,7,8],[0,1,2,3,4,5,6,7,8,9]] (by kernel_rfl) ?_) )
    refine ret_one hq hw _ (.inl rfl) 2 rfl (by rw [flat_i64.lts]; trivial) (.t [.s H.length 0 l.length (.u 0), .v (.int .i64 (leI (boS l (-1)))), .v (.int .i64 0)]) (by simp [go_sem] <;> rfl) ?_
    simp [go_sem, conc, concs, upσ, Cap.val]
end Go.Proofs.YtaekjojblkhfdaaGreatDoor
namespace Go.Proofs.YtaekjojblkhfdaaGreatDoor
open Go Go.Sx
theorem zerosB (n : Nat) : zerosL [V.v (.bool false)] n = rowB n fun _ => false := by
  rw [← rowB_rep]; unfold zerosL; simp
theorem zerosI (n : Nat) : zerosL [V.v (.int .i64 0)] n = rowL .i64 n fun _ => 0 := by
  rw [← rowL_rep]; unfold zerosL; simp
theorem bsS_range {l : List (Nat → Int)} {I : Nat → Bool} {n : Nat} : ∀ c, -1 ≤ (bsS (fun j => mnI l I j n) I c).1 ∧ (bsS (fun j => mnI l I j n) I c).1 < c ∧ -1 ≤ (bsS (fun j => mnI l I j n) I c).2 ∧ (bsS (fun j => mnI l I j n) I c).2 ≤ 144
  | 0 => by simp [bsS]
  | c + 1 => by
    have ih := bsS_range (l := l) (I := I) (n := n) c
    have hm := mnI_range l I c n
    unfold bsS
    split
    · omega
    · split
      · simp only; omega
      · omega
theorem bsS_found {l : List (Nat → Int)} {I : Nat → Bool} {n k : Nat} (h : (outL I n).length = n - k) (hk : k < n) : 0 ≤ (bsS (fun j => mnI l I j n) I n).1 := by
  cases ho : outL I n with
  | nil => rw [ho] at h; simp at h; omega
  | cons a r => rw [(bsS_out _ I n).2 a r ho]; simp only; omega
theorem outL_less {I : Nat → Bool} {n k : Nat} {l : List (Nat → Int)} (h : (outL I n).length = n - k) (hk : k < n) : (outL (addI I (bsS (fun j => mnI l I j n) I n).1.toNat) n).length = n - (k + 1) := by
  cases ho : outL I n with
  | nil => rw [ho] at h; simp at h; omega
  | cons a r =>
    rw [(bsS_out _ I n).2 a r ho]
    simp only [Int.toNat_natCast]
    have hnd := outL_nodup I n
    rw [ho] at hnd h
    have hmem : fmin (fun j => mnI l I j n) a r ∈ a :: r := by
      rcases fmin_mem (fun j => mnI l I j n) r a with e | e
      · rw [e]; exact List.mem_cons_self ..
      · exact List.mem_cons_of_mem _ e
    rw [outL_add, ho, filter_len hmem hnd, h]; omega
theorem updB_add (I : Nat → Bool) (m : Nat) : updB I m true = addI I m := by
  funext i; unfold updB addI
  by_cases e : i = m
  · simp [e]
  · simp [e]
theorem specTreeBound_ok {H : List Blk} {v : V} {l : List (Nat → Int)} (h : Rd H v (rowL .u16 12) l) (hok : okB l = true) (hR : ∀ f ∈ l, R16 f) :
    Cal Tryz.prog 14 [v] H fun u H' => u = .t [.v (.int .i64 (tbV l)), .v (.int .i64 0)] ∧ H' = H := by
  have hsol := h.solid
  have hL := h.lenV (P := Tryz.prog) slTy25
  have h12 := okB_12 hok hR
  have h40 := (okB_iff.1 hok).1
  refine cal_fn 76 mixed Tryz.func14 Tryz.ntmps14 Tryz.results14 rfl rfl rfl fun hw cx hx hq => ?_
  repeat (first | (simp only [go_sem, Int.reduceLT, Int.reduceLE, Int.reduceEq, Int.reduceToNat, hsol, hL, hok, zerosB]) | ((with_reducible refine And.intro ?_ ?_); omega) | ((with_reducible refine isSK ?_); refine call_ret (l02Ok h (by omega)) ?_ ?_) )
  refine WK_for (fun q : Nat × (Nat → Bool) × Int => ⟨[v, .any, .any, .any, .s H.length 0 l.length (.k l.length), .v (.int .i64 q.2.2), .v (.int .i64 q.1)] ++ junk 70, H ++ [⟨rowB l.length q.2.1, 4, .fix⟩]⟩) (fun q => q.1 ≤ l.length ∧ q.2.2 + refN l l.length (l.length - q.1) q.2.1 = tbV l ∧ (outL q.2.1 l.length).length = l.length - q.1 ∧ 0 ≤ q.2.2 ∧ q.2.2 ≤ 144 * q.1) (fun q => l.length - q.1) (0, (fun _ => false), 0) (Weak.slots ?_) ?_ fun q hq0 => ?_
  · simp [go_sem]
  · refine ⟨by simp, ?_, ?_, by simp, by simp⟩
    · simp only [Nat.sub_zero, refN_all, Int.zero_add]
    · simp only [outL_none, List.length_range, Nat.sub_zero]
  obtain ⟨k, I, s⟩ := q
  obtain ⟨hk, hs, ho, hs0, hs1⟩ := hq0
  simp only at hk hs ho hs0 hs1 ⊢
  have hrl := rowB_length l.length I
  rcases Int.lt_or_le (k : Int) l.length with hc | hc
  · have hck : ((k : Int) < (l.length : Int)) = True := eq_true hc
    repeat ((simp only [go_sem, Int.reduceLT, Int.reduceLE, Int.reduceEq, Int.reduceToNat, hL, hck]) )
    refine WK_for (fun j : Nat => ⟨[v, .any, .any, .any, .s H.length 0 l.length (.k l.length), .v (.int .i64 s), .v (.int .i64 k), .v (.int .i64 (bsS (fun j => mnI l I j l.length) I j).1), .v (.int .i64 (bsS (fun j => mnI l I j l.length) I j).2), .v (.int .i64 j)] ++ junk 67, H ++ [⟨rowB l.length I, 4, .fix⟩]⟩) (fun j => j ≤ l.length) (fun j => l.length - j) 0 (Weak.slots ?_) ?_ fun j hj => ?_
    · simp [go_sem, bsS]
    · simp
    have hbr := bsS_range (l := l) (I := I) (n := l.length) j
    rcases Int.lt_or_le (j : Int) l.length with hc2 | hc2
    · have hcj : ((j : Int) < (l.length : Int)) = True := eq_true hc2
      have hcel := rowB_cel I (show j < l.length by omega)
      have hsc : bsS (fun j => mnI l I j l.length) I (j + 1) = if I j = true then bsS (fun j => mnI l I j l.length) I j else if (bsS (fun j => mnI l I j l.length) I j).1 < 0 ∨ mnI l I j l.length < (bsS (fun j => mnI l I j l.length) I j).2 then ((j : Int), mnI l I j l.length) else bsS (fun j => mnI l I j l.length) I j := rfl
      generalize hgb : bsS (fun j => mnI l I j l.length) I j = b at hbr hsc ⊢
      cases hI : I j
      · repeat (first | (simp only [go_sem, Int.reduceLT, Int.reduceLE, Int.reduceEq, Int.reduceToNat, hL, hcj, hcel, hrl, hI]) | ((with_reducible refine And.intro ?_ ?_); omega) )
        refine WK_for (fun i : Nat => ⟨[v, .any, .any, .any, .s H.length 0 l.length (.k l.length), .v (.int .i64 s), .v (.int .i64 k), .v (.int .i64 b.1), .v (.int .i64 b.2), .v (.int .i64 j), .v (.int .i64 (mnI l I j i)), .v (.int .i64 i)] ++ junk 65, H ++ [⟨rowB l.length I, 4, .fix⟩]⟩) (fun i => i ≤ l.length) (fun i => l.length - i) 0 (Weak.slots ?_) ?_ fun i hi => ?_
        · simp [go_sem, mnI]
        · simp
        have hmr := mnI_range l I j i
        rcases Int.lt_or_le (i : Int) l.length with hc3 | hc3
        · have hci : ((i : Int) < (l.length : Int)) = True := eq_true hc3
          have hcel2 := rowB_cel I (show i < l.length by omega)
          have hsi : mnI l I j (i + 1) = if I i = true ∧ (mnI l I j i < 0 ∨ jmp l i j < mnI l I j i) then jmp l i j else mnI l I j i := rfl
          cases hIi : I i
          · rw [hIi] at hsi hcel2
            rw [if_neg (by simp)] at hsi
            repeat (first | (simp only [go_sem, Int.reduceLT, Int.reduceLE, Int.reduceEq, Int.reduceToNat, hL, hci, hcel2, hrl]) | ((with_reducible refine And.intro ?_ ?_); omega) )
            refine EK_again (i + 1) (Weak.slots ?_) (by omega) (by omega)
            rw [hsi]
            simp [go_sem]
          · rw [hIi] at hsi hcel2
            generalize hgm : mnI l I j i = x at hmr hsi ⊢
            by_cases h1 : x < 0
            · have e1 : (x < 0) = True := eq_true h1
              rw [if_pos ⟨rfl, .inl h1⟩] at hsi
              repeat (first | (simp only [go_sem, Int.reduceLT, Int.reduceLE, Int.reduceEq, Int.reduceToNat, hsol, hL, hci, hcel2, hrl, e1, Int.toNat_natCast]) | ((with_reducible refine And.intro ?_ ?_); omega) | ((with_reducible refine isSK ?_); refine call_ret (l04Jump h.app h12 (by omega) (by omega)) ?_ ?_) )
              refine EK_again (i + 1) (Weak.slots ?_) (by omega) (by omega)
              rw [hsi]
              simp [go_sem]
            · have e1 : (x < 0) = False := eq_false h1
              by_cases h2 : jmp l i j < x
              · have e2 : (jmp l i j < x) = True := eq_true h2
                rw [if_pos ⟨rfl, .inr h2⟩] at hsi
                repeat (first | (simp only [go_sem, Int.reduceLT, Int.reduceLE, Int.reduceEq, Int.reduceToNat, hsol, hL, hci, hcel2, hrl, e1, e2, Int.toNat_natCast]) | ((with_reducible refine And.intro ?_ ?_); omega) | ((with_reducible refine isSK ?_); refine call_ret (l04Jump h.app h12 (by omega) (by omega)) ?_ ?_) )
                refine EK_again (i + 1) (Weak.slots ?_) (by omega) (by omega)
                rw [hsi]
                simp [go_sem]
              · have e2 : (jmp l i j < x) = False := eq_false h2
                rw [if_neg (fun e => e.2.elim h1 h2)] at hsi
                repeat (first | (simp only [go_sem, Int.reduceLT, Int.reduceLE, Int.reduceEq, Int.reduceToNat, hsol, hL, hci, hcel2, hrl, e1, e2, Int.toNat_natCast]) | ((with_reducible refine And.intro ?_ ?_); omega) | ((with_reducible refine isSK ?_); refine call_ret (l04Jump h.app h12 (by omega) (by omega)) ?_ ?_) )
                refine EK_again (i + 1) (Weak.slots ?_) (by omega) (by omega)
                rw [hsi]
                simp [go_sem]
        · have : i = l.length := by omega
          subst this
          have hci : ((l.length : Int) < (l.length : Int)) = False := eq_false (by omega)
          rw [hI] at hsc
          rw [if_neg (by simp)] at hsc
          generalize hgm : mnI l I j l.length = x at hmr hsc ⊢
          by_cases h1 : b.1 < 0
          · have e1 : (b.1 < 0) = True := eq_true h1
            rw [if_pos (.inl h1)] at hsc
            repeat (first | (simp only [go_sem, Int.reduceLT, Int.reduceLE, Int.reduceEq, Int.reduceToNat, hL, hci, e1]) | ((with_reducible refine And.intro ?_ ?_); omega) )
            refine EK_again (j + 1) (Weak.slots ?_) (by omega) (by omega)
            rw [hsc]
            simp [go_sem]
          · have e1 : (b.1 < 0) = False := eq_false h1
            by_cases h2 : x < b.2
            · have e2 : (x < b.2) = True := eq_true h2
              rw [if_pos (.inr h2)] at hsc
              repeat (first | (simp only [go_sem, Int.reduceLT, Int.reduceLE, Int.reduceEq, Int.reduceToNat, hL, hci, e1, e2]) | ((with_reducible refine And.intro ?_ ?_); omega) )
              refine EK_again (j + 1) (Weak.slots ?_) (by omega) (by omega)
              rw [hsc]
              simp [go_sem]
            · have e2 : (x < b.2) = False := eq_false h2
              rw [if_neg (fun e => e.elim h1 h2)] at hsc
              repeat (first | (simp only [go_sem, Int.reduceLT, Int.reduceLE, Int.reduceEq, Int.reduceToNat, hL, hci, e1, e2]) | ((with_reducible refine And.intro ?_ ?_); omega) )
              refine EK_again (j + 1) (Weak.slots ?_) (by omega) (by omega)
              rw [hsc]
              simp [go_sem]
      · rw [hI] at hsc
        rw [if_pos rfl] at hsc
        repeat (first | (simp only [go_sem, Int.reduceLT, Int.reduceLE, Int.reduceEq, Int.reduceToNat, hL, hcj, hcel, hrl, hI]) | ((with_reducible refine And.intro ?_ ?_); omega) )
        refine EK_again (j + 1) (Weak.slots ?_) (by omega) (by omega)
        rw [hsc]
        simp [go_sem]
    · have : j = l.length := by omega
      subst this
      have hcj : ((l.length : Int) < (l.length : Int)) = False := eq_false (by omega)
      have hfd := bsS_found (l := l) ho (by omega)
      have hol := outL_less (l := l) ho (by omega)
      have hrf : refN l l.length (l.length - k) I = max 0 (bsS (fun j => mnI l I j l.length) I l.length).2 + refN l l.length (l.length - (k + 1)) (addI I (bsS (fun j => mnI l I j l.length) I l.length).1.toNat) := by
        rw [show l.length - k = (l.length - (k + 1)) + 1 by omega]; rfl
      rw [hrf] at hs
      generalize bsS (fun j => mnI l I j l.length) I l.length = b at hbr hfd hol hs ⊢
      have hwr := rowB_wr I (show b.1.toNat < l.length by omega) true
      repeat (first | (simp only [go_sem, Int.reduceLT, Int.reduceLE, Int.reduceEq, Int.reduceToNat, hL, hcj, hrl, hwr, updB_add]) | ((with_reducible refine And.intro ?_ ?_); omega) | ((with_reducible refine isSK ?_); refine call_ret (l00Max) ?_ ?_) )
      refine EK_again (k + 1, addI I b.1.toNat, s + max 0 b.2) (Weak.slots ?_) ⟨by simp only; omega, by simp only; omega, hol, by simp only; omega, by simp only; omega⟩ (by simp only; omega)
      simp [go_sem]
  · have : k = l.length := by omega
    subst this
    have hck : ((l.length : Int) < (l.length : Int)) = False := eq_false (by omega)
    rw [Nat.sub_self] at hs
    have hse : s = tbV l := by rw [← hs]; simp [refN]
    repeat ((simp only [go_sem, Int.reduceLT, Int.reduceLE, Int.reduceEq, Int.reduceToNat, hL, hck]) )
    refine ret_cut hq hw _ (.inl rfl) ?_
    simp [go_sem, hse]
end Go.Proofs.YtaekjojblkhfdaaGreatDoor
