/- Contracts of functions of the translated program, by the walk. -/
import Derived.Test.YtcebmjajnbafoaaGreatDoorDk1
set_option linter.unusedVariables false
set_option linter.unusedSimpArgs false
set_option maxRecDepth 8000
set_option maxHeartbeats 16000000
namespace Go.Proofs.YtcebmjajnbafoaaGreatDoor
open Go Go.Sx
/-- A key of a drawn track; and one made straight. -/
def DrK (a : Nat → Int) : Prop := (0 ≤ a 0 ∧ a 0 ≤ 27) ∧ (-6 ≤ a 1 ∧ a 1 ≤ 6) ∧ (-6 ≤ a 2 ∧ a 2 ≤ 6)
def DrS (a : Nat → Int) : Prop := (0 ≤ a 0 ∧ a 0 ≤ 27) ∧ (-6 ≤ a 1 ∧ a 1 ≤ 19) ∧ (-6 ≤ a 2 ∧ a 2 ≤ 6)
def UpT (l : List (Nat → Int)) : Prop := ∀ j, j + 1 < l.length → kAt l j 0 < kAt l (j + 1) 0
structure DrI (acc : List (Nat → Int)) (tick : Int) : Prop where
  keys : ∀ a ∈ acc, DrK a
  up : UpT acc
  last : 0 < acc.length → kAt acc (acc.length - 1) 0 < tick
structure DrP (b : List (Nat → Int)) : Prop where
  keys : ∀ a ∈ b, DrS a
  up : UpT b
  n1 : 1 ≤ b.length
  n5 : b.length ≤ 5
theorem kAt_left {A B : List (Nat → Int)} {j : Nat} (h : j < A.length) : kAt (A ++ B) j = kAt A j := by
  rw [kAt_at (by rw [List.length_append]; omega), kAt_at h, List.getElem_append_left h]
theorem kAt_last {A : List (Nat → Int)} {x : Nat → Int} {j : Nat} (h : j = A.length) : kAt (A ++ [x]) j = x := by
  subst h
  rw [kAt_at (by simp), List.getElem_concat_length rfl]
theorem drI_snoc {acc : List (Nat → Int)} {tick d x y : Int} (h : DrI acc tick) (ht : 0 ≤ tick ∧ tick ≤ 27) (hx : -6 ≤ x ∧ x ≤ 6) (hy : -6 ≤ y ∧ y ≤ 6) (hd : 1 ≤ d) : DrI (acc ++ [keyF tick x y]) (tick + d) := by
  refine ⟨fun a ha => ?_, fun j hj => ?_, fun _ => ?_⟩
  · rcases List.mem_append.1 ha with ha | ha
    · exact h.keys a ha
    · rw [List.mem_singleton.1 ha]; exact ⟨ht, hx, hy⟩
  · rw [List.length_append, List.length_singleton] at hj
    rw [kAt_left (by omega)]
    by_cases e : j + 1 = acc.length
    · rw [kAt_last e]
      have := h.last (by omega)
      rw [show acc.length - 1 = j by omega] at this
      exact this
    · rw [kAt_left (by omega)]
      exact h.up j (by omega)
  · rw [List.length_append, List.length_singleton, Nat.add_sub_cancel, kAt_last rfl]
    show tick < tick + d
    omega
theorem setK1 : ∀ (L : List (Nat → Int)) (n : Nat) (hn : n < L.length) (x : Int), wr (L.flatMap encK) (n * 3 + 1) [.v (.int .i8 x)] = (L.set n (keyF (L[n] 0) x (L[n] 2))).flatMap encK
  | a :: L, 0, _, x => by
    simp only [List.flatMap_cons, List.set_cons_zero, List.getElem_cons_zero]
    rfl
  | a :: L, n + 1, hn, x => by
    have hn2 : n < L.length := by simpa using hn
    have ih := setK1 L n hn2 x
    simp only [List.flatMap_cons, List.set_cons_succ, List.getElem_cons_succ]
    rw [← ih]
    unfold wr
    have e : (n + 1) * 3 + 1 = (encK a).length + (n * 3 + 1) := by show (n + 1) * 3 + 1 = 3 + (n * 3 + 1); omega
    rw [e, List.take_length_add_append, Nat.add_assoc, List.drop_length_add_append, List.append_assoc, List.append_assoc, List.append_assoc]
theorem setK2 : ∀ (L : List (Nat → Int)) (n : Nat) (hn : n < L.length) (y : Int), wr (L.flatMap encK) (n * 3 + 2) [.v (.int .i8 y)] = (L.set n (keyF (L[n] 0) (L[n] 1) y)).flatMap encK
  | a :: L, 0, _, x => by
    simp only [List.flatMap_cons, List.set_cons_zero, List.getElem_cons_zero]
    rfl
  | a :: L, n + 1, hn, x => by
    have hn2 : n < L.length := by simpa using hn
    have ih := setK2 L n hn2 x
    simp only [List.flatMap_cons, List.set_cons_succ, List.getElem_cons_succ]
    rw [← ih]
    unfold wr
    have e : (n + 1) * 3 + 2 = (encK a).length + (n * 3 + 2) := by show (n + 1) * 3 + 2 = 3 + (n * 3 + 2); omega
    rw [e, List.take_length_add_append, Nat.add_assoc, List.drop_length_add_append, List.append_assoc, List.append_assoc, List.append_assoc]
theorem drP_of {acc : List (Nat → Int)} {t : Int} (h : DrI acc t) (h1 : 1 ≤ acc.length) (h5 : acc.length ≤ 5) : DrP acc :=
  ⟨fun a ha => by have := h.keys a ha; exact ⟨this.1, ⟨this.2.1.1, by have := this.2.1.2; omega⟩, this.2.2⟩, h.up, h1, h5⟩
theorem drP_ok {b : List (Nat → Int)} (h : DrP b) : tkOk b = true := by
  have h1 := h.n1
  have h5 := h.n5
  rw [tkOk_end fun j hj => ?_, inB_iff]
  · omega
  · unfold tkAt
    rw [Bool.and_eq_true]
    have hk := h.keys b[j] (List.getElem_mem hj)
    refine ⟨?_, ?_⟩
    · rw [kAt_at hj, okK_iff]
      obtain ⟨⟨_, _⟩, ⟨_, _⟩, ⟨_, _⟩⟩ := hk
      omega
    · by_cases e : j = 0
      · simp [e]
      · have := h.up (j - 1) (by omega)
        rw [show j - 1 + 1 = j by omega] at this
        simp [this]
theorem drS_set {L : List (Nat → Int)} {n : Nat} {f : Nat → Int} (h : ∀ a ∈ L, DrS a) (hf : DrS f) : ∀ a ∈ L.set n f, DrS a := fun a ha => by
  rcases List.mem_or_eq_of_mem_set ha with ha | ha
  · exact h a ha
  · rw [ha]; exact hf
theorem kAt_set (L : List (Nat → Int)) (n j : Nat) (f : Nat → Int) (hn : n < L.length) : kAt (L.set n f) j = if j = n then f else kAt L j := by
  unfold kAt
  rw [List.getElem?_set]
  by_cases e : n = j
  · subst e; simp [hn]
  · rw [if_neg e, if_neg (fun h => e h.symm)]
theorem l03Drawn {H : List Blk} {cv : V} {l : List Int} (hr : Rd H cv u8C l) (h8 : B8 l) (hll : l.length ≤ 4096) :
    Cal Tryz.prog 30 [.p H.length 0] (H ++ [⟨[cv, .v (.int .i64 0), .v (.int .u64 0)], 89, .fix⟩]) fun u H' => ∃ (b : List (Nat → Int)) (j : Nat) (L : List Blk), DrP b ∧
      u = .s (H.length + j) 0 b.length (.u 0) ∧ H' = H ++ L ∧ L[j]? = some ⟨b.flatMap encK, 42, .own 3⟩ := by
  have hsol := hr.solid
  refine cal_fn 80 mixed Tryz.func30 Tryz.ntmps30 Tryz.results30 rfl rfl rfl fun hw cx hx hq => ?_
  have hx2 : cx.n0 = H.length + 1 := by rw [hx]; simp
  have k0 := pkV_range h8 0 0 (n := 4) (by omega)
  have z0 := nxS_range l 0 0
  have k1 := pkV_range h8 1 (nxS l 0 0) (n := 5) (by omega)
  obtain ⟨t0, ht0⟩ : ∃ t : Nat, pkV l 0 0 4 = t := ⟨(pkV l 0 0 4).toNat, by omega⟩
  obtain ⟨n0, hn0⟩ : ∃ t : Nat, pkV l 1 (nxS l 0 0) 5 = t := ⟨(pkV l 1 (nxS l 0 0) 5).toNat, by omega⟩
  rw [ht0] at k0
  rw [hn0] at k1
  repeat (first | (simp only [go_sem, Int.reduceLT, Int.reduceLE, Int.reduceEq, Int.reduceToNat, hx2, ht0, hn0]) | ((with_reducible refine And.intro ?_ ?_); omega) | ((with_reducible refine isSK ?_); first | (refine call_ret (pick (i := H.length) (a := 0) (sd := 0) (n := 4) (l := l) (k := .fix) (by exact (Go.Sx.get_at0 _ _).trans rfl) rfl rfl hr.app h8 hll (by omega) (by omega) (by omega)) (by simp only [go_sem, Int.reduceLT, Int.reduceLE, Int.reduceEq, Int.reduceToNat, hx2, ht0, hn0]) ?_) | (refine call_ret (pick (i := H.length) (a := 1) (sd := (nxS l 0 0)) (n := 5) (l := l) (k := .fix) (by exact (Go.Sx.get_at0 _ _).trans rfl) rfl rfl hr.app h8 hll (by omega) z0 (by omega)) (by simp only [go_sem, Int.reduceLT, Int.reduceLE, Int.reduceEq, Int.reduceToNat, hx2, ht0, hn0]) ?_)) | ((with_reducible refine isMC ?_); first | (refine mcall_ret (pick (i := H.length) (a := 0) (sd := 0) (n := 4) (l := l) (k := .fix) (by exact (Go.Sx.get_at0 _ _).trans rfl) rfl rfl hr.app h8 hll (by omega) (by omega) (by omega)) (by simp only [go_sem, Int.reduceLT, Int.reduceLE, Int.reduceEq, Int.reduceToNat, hx2, ht0, hn0]) (by simp only [go_sem, Int.reduceLT, Int.reduceLE, Int.reduceEq, Int.reduceToNat, hx2, ht0, hn0]) ?_) | (refine mcall_ret (pick (i := H.length) (a := 1) (sd := (nxS l 0 0)) (n := 5) (l := l) (k := .fix) (by exact (Go.Sx.get_at0 _ _).trans rfl) rfl rfl hr.app h8 hll (by omega) z0 (by omega)) (by simp only [go_sem, Int.reduceLT, Int.reduceLE, Int.reduceEq, Int.reduceToNat, hx2, ht0, hn0]) (by simp only [go_sem, Int.reduceLT, Int.reduceLE, Int.reduceEq, Int.reduceToNat, hx2, ht0, hn0]) ?_)) | ((with_reducible refine isWKr (id := 13) ?_); refine WK_drawAt 13 [[],[],[],[2],[2,3],[2,3,4],[],[],[6,7],[6,7,8],[6,7,8,9],[],[11],[11,12],[11,12,13],[6,7,8,9,10,11,12,13,14],[6,7,8,9,10,11,12,13,14,15],[6,7,8,9,10,11,12,13,14,15,16],[2,3,4,5,6,7,8,9,10,11,12,13,14,15,16,17],[0,1,2,3,4,5,6,7,8,9,10,11,12,13,14,15,16,17,18],[0,1,2,3,4,5,6,7,8,9,10,11,12,13,14,15,16,17,18,19],[0,1,2,3,4,5,6,7,8,9,10,11,12,13,14,15,16,17,18,19,20]] (by kernel_rfl) ?_) | ((with_reducible refine And.intro ?_ ?_); first | (with_reducible rfl) | assumption | (simp only [go_sem]; done)))
  refine WK_for (fun q : (Nat × List (Nat → Int)) × (Nat × (Nat × Int)) => ⟨[.p H.length 0, .any, .any, .s (H.length + 1) 0 q.1.2.length (.u 0), .v (.int .i64 q.2.1), .v (.int .i64 q.1.1)] ++ junk 75, H ++ [⟨[cv, .v (.int .i64 (q.2.2.1 : Int)), .v (.int .u64 q.2.2.2)], 89, .fix⟩, ⟨q.1.2.flatMap encK, 42, .own 3⟩]⟩) (fun q => q.1.1 + q.1.2.length ≤ 5 ∧ 1 ≤ q.1.1 + q.1.2.length ∧ DrI q.1.2 q.2.1 ∧ q.2.1 ≤ 3 + 6 * q.1.2.length ∧ q.2.2.1 + 3 * q.1.1 ≤ 50 ∧ (0 ≤ q.2.2.2 ∧ q.2.2.2 ≤ 18446744073709551615)) (fun q => q.1.1) ((n0 + 1, []), (t0, (2, nxS l 1 (nxS l 0 0)))) (Weak.slots ?_) ?_ fun q hq0 => ?_
  · simp [go_sem, Int.add_comm]
  · refine ⟨by simp; omega, by simp, ⟨by simp, fun j hj => by simp at hj, fun h => by simp at h⟩, by simp; omega, by dsimp only; omega, nxS_range _ _ _⟩
  obtain ⟨⟨kk, acc⟩, ⟨tick, ⟨a1, s1⟩⟩⟩ := q
  obtain ⟨hk5, hk1, hI, htk, ha1, hs1⟩ := hq0
  simp only at hk5 hk1 hI htk ha1 hs1 ⊢
  have hla : (acc.flatMap encK).length = acc.length * 3 := by rw [flat_encK.flen]
  have g1 : norefH (H.length + 1) H := norefH_left hw (by simp)
  have n1 : norefs (H.length + 1) (acc.flatMap encK) = true := flat_encK.norefs _ _
  have hcv1 : V.noref (H.length + 1) cv = true := hr.noref (by omega)
  have hcl : ∀ m, H.length ≤ m → V.lt m cv = True := fun m hm => hr.vlt hm
  have hcl3 := hcl (H.length + 2) (by omega)
  have q1 : (H.length = H.length + 1) = False := eq_false (by omega)
  have q2 : (H.length + 2 = H.length + 1) = False := eq_false (by omega)
  have q3 : (H.length + 3 = H.length + 1) = False := eq_false (by omega)
  by_cases hk0 : kk = 0
  · have hz2 : ((0 : Int) < (kk : Int)) = False := eq_false (by omega)
    by_cases h2 : acc.length ≤ 2
    · have hz3 : ((2 : Int) < (acc.length : Int)) = False := eq_false (by omega)
      repeat (first | (simp only [go_sem, Int.reduceLT, Int.reduceLE, Int.reduceEq, Int.reduceToNat, hz2, hz3, hx2]) | ((with_reducible refine And.intro ?_ ?_); omega) | ((with_reducible refine isWKr (id := 13) ?_); refine WK_drawAt 13 [[],[],[],[2],[2,3],[2,3,4],[],[],[6,7],[6,7,8],[6,7,8,9],[],[11],[11,12],[11,12,13],[6,7,8,9,10,11,12,13,14],[6,7,8,9,10,11,12,13,14,15],[6,7,8,9,10,11,12,13,14,15,16],[2,3,4,5,6,7,8,9,10,11,12,13,14,15,16,17],[0,1,2,3,4,5,6,7,8,9,10,11,12,13,14,15,16,17,18],[0,1,2,3,4,5,6,7,8,9,10,11,12,13,14,15,16,17,18,19],[0,1,2,3,4,5,6,7,8,9,10,11,12,13,14,15,16,17,18,19,20]] (by kernel_rfl) ?_) | ((with_reducible refine And.intro ?_ ?_); first | (with_reducible rfl) | assumption | (simp only [go_sem]; done)))
      refine ret_at hq _ (.inl rfl) (by simp) ?_
      simp only [go_sem]
      refine ⟨acc, 1, _, drP_of hI (by omega) (by omega), rfl, rfl, rfl⟩
    have hz3 : ((2 : Int) < (acc.length : Int)) = True := eq_true (by omega)
    have hone := one (H := H ++ [⟨[cv, .v (.int .i64 (a1 : Int)), .v (.int .u64 s1)], 89, .fix⟩, ⟨acc.flatMap encK, 42, .own 3⟩]) (i := H.length) (a := a1) (sd := s1) (n := 3) (l := l) (k := .fix) (by exact (Go.Sx.get_at0 _ _).trans rfl) rfl rfl hr.app h8 hll (by omega) hs1 (by omega)
    by_cases h1 : pkV l a1 s1 3 = 0
    · have h1d : decide (pkV l a1 s1 3 = 0) = true := decide_eq_true h1
      rw [h1d] at hone
      repeat (first | (simp only [go_sem, Int.reduceLT, Int.reduceLE, Int.reduceEq, Int.reduceToNat, hz2, hz3, hx2]) | ((with_reducible refine And.intro ?_ ?_); omega) | ((with_reducible refine isSK ?_); first | (refine call_ret (hone) (by simp only [go_sem, Int.reduceLT, Int.reduceLE, Int.reduceEq, Int.reduceToNat, hz2, hz3, hx2]) ?_)) | ((with_reducible refine isMC ?_); first | (refine mcall_ret (hone) (by simp only [go_sem, Int.reduceLT, Int.reduceLE, Int.reduceEq, Int.reduceToNat, hz2, hz3, hx2]) (by simp only [go_sem, Int.reduceLT, Int.reduceLE, Int.reduceEq, Int.reduceToNat, hz2, hz3, hx2]) ?_)) | ((with_reducible refine isWKr (id := 13) ?_); refine WK_drawAt 13 [[],[],[],[2],[2,3],[2,3,4],[],[],[6,7],[6,7,8],[6,7,8,9],[],[11],[11,12],[11,12,13],[6,7,8,9,10,11,12,13,14],[6,7,8,9,10,11,12,13,14,15],[6,7,8,9,10,11,12,13,14,15,16],[2,3,4,5,6,7,8,9,10,11,12,13,14,15,16,17],[0,1,2,3,4,5,6,7,8,9,10,11,12,13,14,15,16,17,18],[0,1,2,3,4,5,6,7,8,9,10,11,12,13,14,15,16,17,18,19],[0,1,2,3,4,5,6,7,8,9,10,11,12,13,14,15,16,17,18,19,20]] (by kernel_rfl) ?_) | ((with_reducible refine And.intro ?_ ?_); first | (with_reducible rfl) | assumption | (simp only [go_sem]; done)))
      have z1 := nxS_range l a1 s1
      refine WK_for (fun q : Nat × List (Nat → Int) => ⟨[.p H.length 0, .any, .any, .s (H.length + 1) 0 acc.length (.u 0), .any, .any, .any, .v (.int .i64 q.1)] ++ junk 73, H ++ [⟨[cv, .v (.int .i64 ((a1 + 1 : Nat) : Int)), .v (.int .u64 (nxS l a1 s1))], 89, .fix⟩, ⟨q.2.flatMap encK, 42, .own 3⟩]⟩) (fun q => (1 ≤ q.1 ∧ q.1 ≤ acc.length ∧ q.2.length = acc.length) ∧ (∀ j, kAt q.2 j 0 = kAt acc j 0) ∧ (∀ a ∈ q.2, DrS a) ∧ DrK (kAt q.2 0)) (fun q => acc.length - q.1) (1, acc) (Weak.slots ?_) ?_ fun q hq0 => ?_
      · simp [go_sem]
      · refine ⟨⟨by simp, by simp; omega, rfl⟩, fun _ => rfl, (drP_of hI (by omega) (by omega)).keys, ?_⟩
        dsimp only
        rw [kAt_at (by omega)]
        exact hI.keys _ (List.getElem_mem _)
      obtain ⟨n, L⟩ := q
      obtain ⟨⟨hn1, hn2, hLl⟩, hL0, hLS, hLK⟩ := hq0
      simp only at hn1 hn2 hLl hL0 hLS hLK ⊢
      have hfl : (L.flatMap encK).length = acc.length * 3 := by rw [flat_encK.flen, hLl]
      rcases Int.lt_or_le (n : Int) acc.length with hc | hc
      · have hci : ((n : Int) < (acc.length : Int)) = True := eq_true hc
        have hj : n < L.length := by omega
        have hj0 : 0 < L.length := by omega
        have cK : ∀ (M : List (Nat → Int)) (i : Nat) (hi : i < M.length), cel (M.flatMap encK) (i * 3) = .v (.int .i16 (M[i] 0)) ∧ cel (M.flatMap encK) (i * 3 + 1) = .v (.int .i8 (M[i] 1)) ∧ cel (M.flatMap encK) (i * 3 + 2) = .v (.int .i8 (M[i] 2)) := fun M i hi => by
          have ae : At (H ++ [⟨M.flatMap encK, 42, .own 3⟩]) H.length (0 + i * 3) (rowK kK 3 M[i]) ⟨M.flatMap encK, 42, .own 3⟩ := (At.mk0 (H := H) (L := []) (cs := M.flatMap encK) (t := 42) (k := .own 3) rfl).el encK_len hi
          rw [Nat.zero_add] at ae
          exact ⟨ae.celK (j := 0) (by omega), ae.celK (j := 1) (by omega), ae.celK (j := 2) (by omega)⟩
        have a0 := cK L 0 hj0
        have an := cK L n hj
        have e0 := hL0 0
        have en := hL0 n
        rw [kAt_at hj0, kAt_at (by omega)] at e0
        rw [kAt_at hj, kAt_at (by omega)] at en
        have dn := hLS _ (List.getElem_mem hj)
        have d0 := hLK
        rw [kAt_at hj0] at d0
        obtain ⟨⟨u1, u2⟩, ⟨u3, u4⟩, ⟨u5, u6⟩⟩ := dn
        obtain ⟨⟨v1, v2⟩, ⟨v3, v4⟩, ⟨v5, v6⟩⟩ := d0
        have hge : L[0] 0 ≤ L[n] 0 := by
          have hv := drP_ok (drP_of hI (by omega) (by omega))
          have := tkOk_lt hv (show 0 < n by omega) (show n < acc.length by omega)
          omega
        generalize ht : L[n] 0 - L[0] 0 = D at *
        have hD : 0 ≤ D ∧ D ≤ 27 := by omega
        have hq2 : D.tdiv 2 = D / 2 := Int.tdiv_eq_ediv_of_nonneg hD.1
        have w0 := wrap_i16 (x := D) (by omega) (by omega)
        have w1 := wrap_i8 (x := D) (by omega) (by omega)
        have w2 := wrap_i8 (x := D / 2) (by omega) (by omega)
        have w3 := wrap_i8 (x := L[0] 1 + D / 2) (by omega) (by omega)
        obtain ⟨L1, hL1⟩ : ∃ L1, L1 = L.set n (keyF (L[n] 0) (L[0] 1 + D / 2) (L[n] 2)) := ⟨_, rfl⟩
        have hs1 := setK1 L n hj (L[0] 1 + D / 2)
        rw [← hL1] at hs1
        have hl1 : L1.length = L.length := by rw [hL1, List.length_set]
        have hg0 : L1[0]'(by omega) = L[0] := by
          have := kAt_set L n 0 (keyF (L[n] 0) (L[0] 1 + D / 2) (L[n] 2)) hj
          rw [if_neg (by omega), ← hL1, kAt_at (by omega), kAt_at hj0] at this; exact this
        have hgn : L1[n]'(by omega) = keyF (L[n] 0) (L[0] 1 + D / 2) (L[n] 2) := by
          have := kAt_set L n n (keyF (L[n] 0) (L[0] 1 + D / 2) (L[n] 2)) hj
          rw [if_pos rfl, ← hL1, kAt_at (by omega)] at this; exact this
        have b0 := (cK L1 0 (by omega)).2.2
        rw [hg0] at b0
        have hs2 := setK2 L1 n (by omega) (L[0] 2)
        rw [hgn] at hs2
        simp only [keyF_0, keyF_1, keyF_2] at hs2
        have hfl1 : (L1.flatMap encK).length = acc.length * 3 := by rw [flat_encK.flen, hl1, hLl]
        obtain ⟨a01, a02, a03⟩ := a0
        obtain ⟨an1, an2, an3⟩ := an
        simp only [Nat.zero_mul, Nat.zero_add] at a01 a02 a03 b0
        repeat (first | (simp only [go_sem, Int.reduceLT, Int.reduceLE, Int.reduceEq, Int.reduceToNat, hci, hx2, hfl, hfl1, a01, a02, a03, an1, an2, an3, b0, ht, hq2, w0, w1, w2, w3, hs1, hs2, Nat.zero_mul, Nat.zero_add]) | ((with_reducible refine And.intro ?_ ?_); omega) | ((with_reducible refine isWKr (id := 13) ?_); refine WK_drawAt 13 [[],[],[],[2],[2,3],[2,3,4],[],[],[6,7],[6,7,8],[6,7,8,9],[],[11],[11,12],[11,12,13],[6,7,8,9,10,11,12,13,14],[6,7,8,9,10,11,12,13,14,15],[6,7,8,9,10,11,12,13,14,15,16],[2,3,4,5,6,7,8,9,10,11,12,13,14,15,16,17],[0,1,2,3,4,5,6,7,8,9,10,11,12,13,14,15,16,17,18],[0,1,2,3,4,5,6,7,8,9,10,11,12,13,14,15,16,17,18,19],[0,1,2,3,4,5,6,7,8,9,10,11,12,13,14,15,16,17,18,19,20]] (by kernel_rfl) ?_) | ((with_reducible refine And.intro ?_ ?_); first | (with_reducible rfl) | assumption | (simp only [go_sem]; done)))
        refine EK_again (n + 1, L1.set n (keyF (L[n] 0) (L[0] 1 + D / 2) (L[0] 2))) (Weak.slots (by simp [go_sem])) ⟨⟨by dsimp only; omega, by dsimp only; omega, by dsimp only; rw [List.length_set]; omega⟩, fun j => ?_, ?_, ?_⟩ (by dsimp only; omega)
        · dsimp only
          rw [kAt_set _ _ _ _ (by omega), hL1, kAt_set _ _ _ _ hj]
          by_cases e : j = n
          · rw [if_pos e, e, ← hL0 n, kAt_at hj]; rfl
          · rw [if_neg e, if_neg e]; exact hL0 j
        · dsimp only
          refine drS_set (hL1 ▸ drS_set hLS ?_) ?_
          · exact ⟨⟨u1, u2⟩, ⟨by show -6 ≤ L[0] 1 + D / 2; omega, by show L[0] 1 + D / 2 ≤ 19; omega⟩, ⟨u5, u6⟩⟩
          · exact ⟨⟨u1, u2⟩, ⟨by show -6 ≤ L[0] 1 + D / 2; omega, by show L[0] 1 + D / 2 ≤ 19; omega⟩, ⟨v5, v6⟩⟩
        · dsimp only
          rw [kAt_set _ _ _ _ (by omega), if_neg (by omega), hL1, kAt_set _ _ _ _ hj, if_neg (by omega)]
          exact hLK
      · have e9 : n = acc.length := by omega
        subst e9
        have hci : ((acc.length : Int) < (acc.length : Int)) = False := eq_false (by omega)
        repeat (first | (simp only [go_sem, Int.reduceLT, Int.reduceLE, Int.reduceEq, Int.reduceToNat, hci, hx2]) | ((with_reducible refine And.intro ?_ ?_); omega) | ((with_reducible refine isWKr (id := 13) ?_); refine WK_drawAt 13 [[],[],[],[2],[2,3],[2,3,4],[],[],[6,7],[6,7,8],[6,7,8,9],[],[11],[11,12],[11,12,13],[6,7,8,9,10,11,12,13,14],[6,7,8,9,10,11,12,13,14,15],[6,7,8,9,10,11,12,13,14,15,16],[2,3,4,5,6,7,8,9,10,11,12,13,14,15,16,17],[0,1,2,3,4,5,6,7,8,9,10,11,12,13,14,15,16,17,18],[0,1,2,3,4,5,6,7,8,9,10,11,12,13,14,15,16,17,18,19],[0,1,2,3,4,5,6,7,8,9,10,11,12,13,14,15,16,17,18,19,20]] (by kernel_rfl) ?_) | ((with_reducible refine And.intro ?_ ?_); first | (with_reducible rfl) | assumption | (simp only [go_sem]; done)))
        refine ret_at hq _ (.inl rfl) (by simp) ?_
        simp only [go_sem]
        refine ⟨L, 1, _, ⟨hLS, fun j hj => ?_, by omega, by omega⟩, by rw [hLl], rfl, rfl⟩
        rw [hL0, hL0]
        exact hI.up j (by omega)
    · have h1d : decide (pkV l a1 s1 3 = 0) = false := decide_eq_false h1
      rw [h1d] at hone
      repeat (first | (simp only [go_sem, Int.reduceLT, Int.reduceLE, Int.reduceEq, Int.reduceToNat, hz2, hz3, hx2]) | ((with_reducible refine And.intro ?_ ?_); omega) | ((with_reducible refine isSK ?_); first | (refine call_ret (hone) (by simp only [go_sem, Int.reduceLT, Int.reduceLE, Int.reduceEq, Int.reduceToNat, hz2, hz3, hx2]) ?_)) | ((with_reducible refine isMC ?_); first | (refine mcall_ret (hone) (by simp only [go_sem, Int.reduceLT, Int.reduceLE, Int.reduceEq, Int.reduceToNat, hz2, hz3, hx2]) (by simp only [go_sem, Int.reduceLT, Int.reduceLE, Int.reduceEq, Int.reduceToNat, hz2, hz3, hx2]) ?_)) | ((with_reducible refine isWKr (id := 13) ?_); refine WK_drawAt 13 [[],[],[],[2],[2,3],[2,3,4],[],[],[6,7],[6,7,8],[6,7,8,9],[],[11],[11,12],[11,12,13],[6,7,8,9,10,11,12,13,14],[6,7,8,9,10,11,12,13,14,15],[6,7,8,9,10,11,12,13,14,15,16],[2,3,4,5,6,7,8,9,10,11,12,13,14,15,16,17],[0,1,2,3,4,5,6,7,8,9,10,11,12,13,14,15,16,17,18],[0,1,2,3,4,5,6,7,8,9,10,11,12,13,14,15,16,17,18,19],[0,1,2,3,4,5,6,7,8,9,10,11,12,13,14,15,16,17,18,19,20]] (by kernel_rfl) ?_) | ((with_reducible refine And.intro ?_ ?_); first | (with_reducible rfl) | assumption | (simp only [go_sem]; done)))
      refine ret_at hq _ (.inl rfl) (by simp) ?_
      simp only [go_sem]
      refine ⟨acc, 1, _, drP_of hI (by omega) (by omega), rfl, rfl, rfl⟩
  have hz2 : ((0 : Int) < (kk : Int)) = True := eq_true (by omega)
  have z1 := nxS_range l a1 s1
  have z2 := nxS_range l (a1 + 1) (nxS l a1 s1)
  have z3 := nxS_range l (a1 + 2) (nxS l (a1 + 1) (nxS l a1 s1))
  have p1 := pkV_range h8 a1 s1 (n := 13) (by omega)
  have p2 := pkV_range h8 (a1 + 1) (nxS l a1 s1) (n := 13) (by omega)
  have p3 := pkV_range h8 (a1 + 2) (nxS l (a1 + 1) (nxS l a1 s1)) (n := 6) (by omega)
  obtain ⟨x, hxv⟩ : ∃ x, pkV l a1 s1 13 = x := ⟨_, rfl⟩
  obtain ⟨y, hyv⟩ : ∃ y, pkV l (a1 + 1) (nxS l a1 s1) 13 = y := ⟨_, rfl⟩
  obtain ⟨d, hdv⟩ : ∃ d : Nat, pkV l (a1 + 2) (nxS l (a1 + 1) (nxS l a1 s1)) 6 = d := ⟨(pkV l (a1 + 2) (nxS l (a1 + 1) (nxS l a1 s1)) 6).toNat, by omega⟩
  rw [hxv] at p1
  rw [hyv] at p2
  rw [hdv] at p3
  have w0 := wrap_i16 (x := (tick : Int)) (by omega) (by omega)
  have w1 := wrap_i8 (x := x - 6) (by omega) (by omega)
  have w2 := wrap_i8 (x := y - 6) (by omega) (by omega)
  repeat (first | (simp only [go_sem, Int.reduceLT, Int.reduceLE, Int.reduceEq, Int.reduceToNat, hz2, hx2, hxv, hyv, hdv, w0, w1, w2, hla, g1, n1, hcv1, q1, q2, q3]) | ((with_reducible refine And.intro ?_ ?_); omega) | ((with_reducible refine isSK ?_); first | (refine call_ret (pick (i := H.length) (a := a1) (sd := s1) (n := 13) (l := l) (k := .fix) (by exact (Go.Sx.get_at0 _ _).trans rfl) rfl rfl hr.app h8 hll (by omega) hs1 (by omega)) (by simp only [go_sem, Int.reduceLT, Int.reduceLE, Int.reduceEq, Int.reduceToNat, hz2, hx2, hxv, hyv, hdv, w0, w1, w2, hla, g1, n1, hcv1, q1, q2, q3]) ?_) | (refine call_ret (pick (i := H.length) (a := (a1 + 1)) (sd := (nxS l a1 s1)) (n := 13) (l := l) (k := .fix) (by exact (Go.Sx.get_at0 _ _).trans rfl) rfl rfl hr.app h8 hll (by omega) z1 (by omega)) (by simp only [go_sem, Int.reduceLT, Int.reduceLE, Int.reduceEq, Int.reduceToNat, hz2, hx2, hxv, hyv, hdv, w0, w1, w2, hla, g1, n1, hcv1, q1, q2, q3]) ?_) | (refine call_ret (pick (i := H.length) (a := (a1 + 2)) (sd := (nxS l (a1 + 1) (nxS l a1 s1))) (n := 6) (l := l) (k := .fix) (by exact (Go.Sx.get_at0 _ _).trans rfl) rfl rfl hr.app h8 hll (by omega) z2 (by omega)) (by simp only [go_sem, Int.reduceLT, Int.reduceLE, Int.reduceEq, Int.reduceToNat, hz2, hx2, hxv, hyv, hdv, w0, w1, w2, hla, g1, n1, hcv1, q1, q2, q3]) ?_)) | ((with_reducible refine isMC ?_); first | (refine mcall_ret (pick (i := H.length) (a := a1) (sd := s1) (n := 13) (l := l) (k := .fix) (by exact (Go.Sx.get_at0 _ _).trans rfl) rfl rfl hr.app h8 hll (by omega) hs1 (by omega)) (by simp only [go_sem, Int.reduceLT, Int.reduceLE, Int.reduceEq, Int.reduceToNat, hz2, hx2, hxv, hyv, hdv, w0, w1, w2, hla, g1, n1, hcv1, q1, q2, q3]) (by simp only [go_sem, Int.reduceLT, Int.reduceLE, Int.reduceEq, Int.reduceToNat, hz2, hx2, hxv, hyv, hdv, w0, w1, w2, hla, g1, n1, hcv1, q1, q2, q3]) ?_) | (refine mcall_ret (pick (i := H.length) (a := (a1 + 1)) (sd := (nxS l a1 s1)) (n := 13) (l := l) (k := .fix) (by exact (Go.Sx.get_at0 _ _).trans rfl) rfl rfl hr.app h8 hll (by omega) z1 (by omega)) (by simp only [go_sem, Int.reduceLT, Int.reduceLE, Int.reduceEq, Int.reduceToNat, hz2, hx2, hxv, hyv, hdv, w0, w1, w2, hla, g1, n1, hcv1, q1, q2, q3]) (by simp only [go_sem, Int.reduceLT, Int.reduceLE, Int.reduceEq, Int.reduceToNat, hz2, hx2, hxv, hyv, hdv, w0, w1, w2, hla, g1, n1, hcv1, q1, q2, q3]) ?_) | (refine mcall_ret (pick (i := H.length) (a := (a1 + 2)) (sd := (nxS l (a1 + 1) (nxS l a1 s1))) (n := 6) (l := l) (k := .fix) (by exact (Go.Sx.get_at0 _ _).trans rfl) rfl rfl hr.app h8 hll (by omega) z2 (by omega)) (by simp only [go_sem, Int.reduceLT, Int.reduceLE, Int.reduceEq, Int.reduceToNat, hz2, hx2, hxv, hyv, hdv, w0, w1, w2, hla, g1, n1, hcv1, q1, q2, q3]) (by simp only [go_sem, Int.reduceLT, Int.reduceLE, Int.reduceEq, Int.reduceToNat, hz2, hx2, hxv, hyv, hdv, w0, w1, w2, hla, g1, n1, hcv1, q1, q2, q3]) ?_)) | ((with_reducible refine isWKr (id := 13) ?_); refine WK_drawAt 13 [[],[],[],[2],[2,3],[2,3,4],[],[],[6,7],[6,7,8],[6,7,8,9],[],[11],[11,12],[11,12,13],[6,7,8,9,10,11,12,13,14],[6,7,8,9,10,11,12,13,14,15],[6,7,8,9,10,11,12,13,14,15,16],[2,3,4,5,6,7,8,9,10,11,12,13,14,15,16,17],[0,1,2,3,4,5,6,7,8,9,10,11,12,13,14,15,16,17,18],[0,1,2,3,4,5,6,7,8,9,10,11,12,13,14,15,16,17,18,19],[0,1,2,3,4,5,6,7,8,9,10,11,12,13,14,15,16,17,18,19,20]] (by kernel_rfl) ?_) | ((with_reducible refine And.intro ?_ ?_); first | (with_reducible rfl) | assumption | (simp only [go_sem]; done)))
  have hE : encK (keyF (tick : Int) (x - 6) (y - 6)) = [.v (.int .i16 tick), .v (.int .i8 (x - 6)), .v (.int .i8 (y - 6))] := rfl
  refine EK_again ((kk - 1, acc ++ [keyF tick (x - 6) (y - 6)]), (tick + (1 + d), (a1 + 3, nxS l (a1 + 2) (nxS l (a1 + 1) (nxS l a1 s1))))) ?_ ⟨by dsimp only; rw [List.length_append, List.length_singleton]; omega, by dsimp only; rw [List.length_append, List.length_singleton]; omega, ?_, by dsimp only; rw [List.length_append, List.length_singleton]; omega, by dsimp only; omega, z3⟩ (by dsimp only; omega)
  · have e4 : ((kk - 1 : Nat) : Int) = (kk : Int) - 1 := by omega
    dsimp only
    rw [e4, List.flatMap_append, List.flatMap_singleton, List.length_append, List.length_singleton, hE]
    exact Weak.keepN rfl (by simp [go_sem] <;> omega) (by simp [hx]) (by simp [go_sem] <;> omega) (hw.re (by simp) (by simp [go_sem, hcl3, flat_encK.lts]))
  · have := drI_snoc (d := 1 + d) hI (x := x - 6) (y := y - 6) (by omega) (by omega) (by omega) (by omega)
    dsimp only
    push_cast
    exact this
theorem P6Track {H : List Blk} {cv : V} {l : List Int} (hr : Rd H cv u8C l) (h8 : B8 l) (hll : l.length ≤ 4096) :
    Cal Tryz.prog 5 [cv] H fun u H' => ∃ b : List (Nat → Int), DrP b ∧ u = .s H.length 0 b.length (.u 0) ∧ H' = H ++ [⟨b.flatMap encK, 42, .own 3⟩] := by
  have hsol := hr.solid
  refine cal_fn 5 mixed Tryz.func5 Tryz.ntmps5 Tryz.results5 rfl rfl rfl fun hw cx hx hq => ?_
  repeat (first | (simp only [go_sem, Int.reduceLT, Int.reduceLE, Int.reduceEq, Int.reduceToNat, hsol]) | ((with_reducible refine And.intro ?_ ?_); omega) | ((with_reducible refine isSK ?_); first | (refine call_ret (l00From hr) (by simp only [go_sem, Int.reduceLT, Int.reduceLE, Int.reduceEq, Int.reduceToNat, hsol]) ?_)) | ((with_reducible refine And.intro ?_ ?_); first | (with_reducible rfl) | assumption | (simp only [go_sem]; done)))
  refine call_ex (l03Drawn hr h8 hll) (by simp only [go_sem]) ?_
  rintro _ _ ⟨b, j, L, hb, rfl, rfl, hL⟩
  repeat (first | (simp only [go_sem, Int.reduceLT, Int.reduceLE, Int.reduceEq, Int.reduceToNat, hsol]) | ((with_reducible refine And.intro ?_ ?_); omega) | ((with_reducible refine And.intro ?_ ?_); first | (with_reducible rfl) | assumption | (simp only [go_sem]; done)))
  refine ret_one hq hw _ (.inl rfl) j hL (by rw [flat_encK.lts]; trivial) (.s H.length 0 b.length (.u 0)) (by simp [go_sem]) ?_
  simp only [go_sem]
  exact ⟨by simp [conc, upσ, Cap.val], b, hb, rfl, rfl⟩
end Go.Proofs.YtcebmjajnbafoaaGreatDoor
namespace Go.Proofs.YtcebmjajnbafoaaGreatDoor
open Go Go.Sx
theorem bkN_at (l : List (Nat → Int)) : ∀ n j, j < n → kAt (bkN l n) j = bkF l (kAt l (l.length - 1 - j))
  | n + 1, j, h => by
    unfold bkN
    rcases Nat.lt_or_ge j n with h2 | h2
    · rw [kAt_left (by rw [bkN_len]; exact h2)]
      exact bkN_at l n j h2
    · obtain rfl : j = n := by omega
      rw [kAt_last (by rw [bkN_len])]
theorem drP_mono {b : List (Nat → Int)} (h : DrP b) {i j : Nat} (hij : i < j) (hj : j < b.length) : kAt b i 0 < kAt b j 0 := by
  have := tkOk_lt (drP_ok h) hij hj
  rw [kAt_at (by omega), kAt_at hj]; exact this
theorem drP_key {b : List (Nat → Int)} (h : DrP b) {j : Nat} (hj : j < b.length) : DrS (kAt b j) := by
  rw [kAt_at hj]; exact h.keys _ (List.getElem_mem hj)
theorem drP_ends {b : List (Nat → Int)} (h : DrP b) {j : Nat} (hj : j < b.length) : kAt b 0 0 ≤ kAt b j 0 ∧ kAt b j 0 ≤ kAt b (b.length - 1) 0 := by
  constructor
  · by_cases e : j = 0
    · subst e; exact Int.le_refl _
    · exact Int.le_of_lt (drP_mono h (by omega) hj)
  · by_cases e : j = b.length - 1
    · subst e; exact Int.le_refl _
    · exact Int.le_of_lt (drP_mono h (show j < b.length - 1 by omega) (by omega))
def bkL (b : List (Nat → Int)) : List (Nat → Int) := bkN b b.length
theorem bkL_len (b : List (Nat → Int)) : (bkL b).length = b.length := bkN_len b b.length
theorem bkL_at {b : List (Nat → Int)} {j : Nat} (h : j < b.length) : kAt (bkL b) j = bkF b (kAt b (b.length - 1 - j)) := bkN_at b b.length j h
theorem bk_drP {b : List (Nat → Int)} (h : DrP b) : DrP (bkL b) := by
  have hl := bkL_len b
  have h1 := h.n1
  refine ⟨fun a ha => ?_, fun j hj => ?_, by rw [hl]; exact h.n1, by rw [hl]; exact h.n5⟩
  · obtain ⟨j, hj, rfl⟩ := List.mem_iff_getElem.1 ha
    rw [hl] at hj
    have e := bkL_at hj
    rw [kAt_at (by omega)] at e
    rw [e]
    have k := drP_key h (show b.length - 1 - j < b.length by omega)
    have z := drP_ends h (show b.length - 1 - j < b.length by omega)
    have k0 := drP_key h (show 0 < b.length by omega)
    have k1 := drP_key h (show b.length - 1 < b.length by omega)
    obtain ⟨⟨a1, a2⟩, k⟩ := k
    obtain ⟨⟨b1, b2⟩, _⟩ := k0
    obtain ⟨⟨c1, c2⟩, _⟩ := k1
    refine ⟨⟨?_, ?_⟩, k⟩
    · show 0 ≤ kAt b 0 0 + kAt b (b.length - 1) 0 - _; omega
    · show kAt b 0 0 + kAt b (b.length - 1) 0 - _ ≤ 27; omega
  · rw [hl] at hj
    rw [bkL_at (by omega), bkL_at hj]
    have := drP_mono h (show b.length - 1 - (j + 1) < b.length - 1 - j by omega) (by omega)
    show kAt b 0 0 + kAt b (b.length - 1) 0 - _ < kAt b 0 0 + kAt b (b.length - 1) 0 - _
    omega
theorem map_md_at {b : List (Nat → Int)} (hN : b.map mdK = b) {j : Nat} (hj : j < b.length) : mdK (kAt b j) = kAt b j := by
  have e : (b.map mdK)[j]? = b[j]? := by rw [hN]
  rw [List.getElem?_map, List.getElem?_eq_getElem hj] at e
  rw [kAt_at hj]
  exact Option.some.inj e
theorem list_at {A B : List (Nat → Int)} (hl : A.length = B.length) (h : ∀ j, j < A.length → kAt A j = kAt B j) : A = B := by
  apply List.ext_getElem hl
  intro j h1 h2
  have := h j h1
  rwa [kAt_at h1, kAt_at h2] at this
theorem bk_bk {b : List (Nat → Int)} (h : DrP b) (hN : b.map mdK = b) : bkL (bkL b) = b := by
  have h1 := h.n1
  have hl := bkL_len b
  refine list_at (by rw [bkL_len, bkL_len]) fun j hj => ?_
  rw [bkL_len, bkL_len] at hj
  rw [bkL_at (by rw [hl]; exact hj), hl, bkL_at (by omega)]
  have e0 := bkL_at (show 0 < b.length by omega)
  have e1 := bkL_at (show b.length - 1 < b.length by omega)
  have es : b.length - 1 - (b.length - 1 - j) = j := by omega
  rw [es]
  have em := map_md_at hN hj
  conv => rhs; rw [← em]
  unfold bkF
  rw [hl, e0, e1]
  rw [show b.length - 1 - 0 = b.length - 1 by omega, show b.length - 1 - (b.length - 1) = 0 by omega]
  unfold bkF mdK
  simp only [keyF_0, keyF_1, keyF_2]
  congr 1
  omega
theorem sh_ok {b : List (Nat → Int)} (h : DrP b) {e : Int} (he : -4 ≤ e ∧ e ≤ 4) : shC b 2 e 1 = 0 := by
  have h1 := h.n1
  have h5 := h.n5
  have hv := drP_ok h
  unfold shC
  rw [if_pos hv, if_pos (by unfold shFine; simp [inB]; omega), if_pos]
  have hl : (shL b 2 e 1).length = b.length := by simp [shL]
  have hat : ∀ j, j < b.length → kAt (shL b 2 e 1) j = keyF (kAt b j 0 + 2) (kAt b j 1 + e) (kAt b j 2 + 1) := fun j hj => by
    unfold shL
    rw [kAt_at (by simpa using hj), List.getElem_map, kAt_at hj]
  rw [tkOk_end fun j hj => ?_, inB_iff]
  · omega
  · rw [hl] at hj
    unfold tkAt
    rw [Bool.and_eq_true, hat j hj]
    obtain ⟨⟨_, _⟩, ⟨_, _⟩, ⟨_, _⟩⟩ := drP_key h hj
    refine ⟨?_, ?_⟩
    · rw [okK_iff]; simp only [keyF_0, keyF_1, keyF_2]; omega
    · by_cases e : j = 0
      · simp [e]
      · rw [hat (j - 1) (by omega)]
        have := drP_mono h (show j - 1 < j by omega) hj
        simp only [keyF_0]
        simp; omega
end Go.Proofs.YtcebmjajnbafoaaGreatDoor
