/- Contracts of functions of the translated program, by the walk. -/
import Derived.Test.YtcebmjajnbafoaaGreatDoorFp4
import Derived.Test.YtcebmjajnbafoaaGreatDoorDe2
import Derived.Test.YtcebmjajnbafoaaGreatDoorK27
import Derived.Shelf.Strings.OnBuilder
import Derived.Test.YtcebmjajnbafoaaGreatDoorProg
import Derived.KernelRfl
import Derived.Test.YtcebmjajnbafoaaGreatDoorT1
import Derived.Shelf.Strconv.Itoa4
import Derived.Test.YtcebmjajnbafoaaGreatDoorLD
import Derived.Test.YtcebmjajnbafoaaGreatDoorLA
set_option linter.unusedVariables false
set_option linter.unusedSimpArgs false
set_option maxRecDepth 8000
set_option maxHeartbeats 16000000
namespace Go.Proofs.YtcebmjajnbafoaaGreatDoor
open Go Go.Sx
theorem place_key {l : List (Nat → Int)} (hv : tkOk l = true) {j : Nat} (hj : j < l.length) (e : Int) (c : Nat) : placeR l e (kAt l j 0) c = kAt l j c := by
  have hk : kn l (kAt l j 0) = j + 1 := by
    rw [kAt_at hj]
    refine kn_at (by omega) (fun i hi hij => ?_) fun h => tkOk_lt hv (by omega) h
    by_cases e : i = j
    · subst e; exact Int.le_refl _
    · exact Int.le_of_lt (tkOk_lt hv (show i < j by omega) hj)
  by_cases h1 : j + 1 = l.length
  · rw [placeR_hi (by rw [hk, h1]), show l.length - 1 = j by omega]
  · rw [placeR_mid hk (by omega), Int.sub_self, shareR_zero, betweenR_zero]
    have := tkOk_lt hv (show j < j + 1 by omega) (show j + 1 < l.length by omega)
    rw [kAt_at hj, kAt_at (by omega)]; omega
theorem thin_way : ∀ (f : Nat) (l : List (Nat → Int)) (i : Nat), 1 ≤ i → tkOk l = true → tkOk (thinN f l i) = true ∧ swB l (thinN f l i) = true
  | 0, l, i, _, hv => ⟨hv, swB_iff.2 fun n _ => sameA_iff.2 ⟨rfl, rfl⟩⟩
  | f + 1, l, i, h1, hv => by
    rw [thinN]
    split
    · rename_i h2
      split
      · rename_i hg
        have he := tkOk_erase hv h1 h2
        have hs := sw_go hv he (erase_ends h1 h2).1 (erase_ends h1 h2).2
        rw [hg] at hs
        have ih := thin_way f (l.eraseIdx i) i h1 he
        refine ⟨ih.1, swB_iff.2 fun n hn => sameA_iff.2 ?_⟩
        have a := sameA_iff.1 (swB_iff.1 hs n hn)
        have b := sameA_iff.1 (swB_iff.1 ih.2 n hn)
        exact ⟨a.1.trans b.1, a.2.trans b.2⟩
      · exact thin_way f l (i + 1) (by omega) hv
    · exact ⟨hv, swB_iff.2 fun n _ => sameA_iff.2 ⟨rfl, rfl⟩⟩
/-- A thinned track goes through the same places. -/
theorem thin_same {l : List (Nat → Int)} (hv : tkOk l = true) {t : Int} (ht : 0 ≤ t ∧ t ≤ 200) : tkOk (thinF l 1) = true ∧ placeR l 0 t 1 = placeR (thinF l 1) 0 t 1 ∧ placeR l 0 t 2 = placeR (thinF l 1) 0 t 2 := by
  have h := thin_way (l.length - 1) l 1 (Nat.le_refl _) hv
  obtain ⟨n, rfl⟩ := Int.eq_ofNat_of_zero_le ht.1
  have := sameA_iff.1 (swB_iff.1 h.2 n (by omega))
  exact ⟨h.1, this.1, this.2⟩
theorem sh_home {b : List (Nat → Int)} (h : DrP b) (hN : b.map mdK = b) {e : Int} (he : -4 ≤ e ∧ e ≤ 4) : shC (shL b 2 e 1) (-2) (-e) (-1) = 0 ∧ shL (shL b 2 e 1) (-2) (-e) (-1) = b := by
  have hb : shL (shL b 2 e 1) (-2) (-e) (-1) = b := by
    conv => rhs; rw [← hN]
    unfold shL
    rw [List.map_map]
    refine List.map_congr_left fun a _ => ?_
    show keyF (keyF (a 0 + 2) (a 1 + e) (a 2 + 1) 0 + -2) (keyF (a 0 + 2) (a 1 + e) (a 2 + 1) 1 + -e) (keyF (a 0 + 2) (a 1 + e) (a 2 + 1) 2 + -1) = keyF (a 0) (a 1) (a 2)
    simp only [keyF_0, keyF_1, keyF_2]
    congr 1 <;> omega
  have hs := (shC_ok (sh_ok h he)).2.2
  refine ⟨?_, hb⟩
  unfold shC
  rw [if_pos hs, if_pos (by unfold shFine; simp [inB]; omega), hb, if_pos (drP_ok h)]
/-- The track and then back. -/
theorem jn_ok {b : List (Nat → Int)} (h : DrP b) : jnC b (bkL b) = 0 ∧ (jnL b (bkL b)).length = 2 * b.length - 1 := by
  have h1 := h.n1
  have h5 := h.n5
  have hbl := bkL_len b
  have hv := drP_ok h
  have hv2 := drP_ok (bk_drP h)
  have hl : (jnL b (bkL b)).length = 2 * b.length - 1 := by
    unfold jnL jnN
    rw [List.length_map, List.length_append, List.length_map, List.length_drop, hbl]; omega
  have e0 := bkL_at (show 0 < b.length by omega)
  rw [Nat.sub_zero] at e0
  have hD : jnD b (bkL b) = kAt b (b.length - 1) 0 - kAt b 0 0 := by
    unfold jnD
    rw [e0]
    show _ - (kAt b 0 0 + kAt b (b.length - 1) 0 - kAt b (b.length - 1) 0) = _
    omega
  have hS : jnS b (bkL b) = true := by
    unfold jnS
    rw [e0]
    show (decide (kAt b (b.length - 1) 1 = kAt b (b.length - 1) 1) && decide (kAt b (b.length - 1) 2 = kAt b (b.length - 1) 2)) = true
    simp
  have lo : ∀ j, j < b.length → kAt (jnL b (bkL b)) j = mdK (kAt b j) := fun j hj => by
    unfold jnL
    rw [kAt_map (by unfold jnN; rw [List.length_append]; omega)]
    unfold jnN
    rw [List.getElem_append_left hj, kAt_at hj]
  have hi : ∀ j, b.length ≤ j → j < 2 * b.length - 1 → kAt (jnL b (bkL b)) j = keyF (2 * kAt b (b.length - 1) 0 - kAt b (2 * b.length - 2 - j) 0) (kAt b (2 * b.length - 2 - j) 1) (kAt b (2 * b.length - 2 - j) 2) := fun j h1 h2 => by
    unfold jnL
    rw [kAt_map (by unfold jnN; rw [List.length_append, List.length_map, List.length_drop, hbl]; omega)]
    unfold jnN
    rw [List.getElem_append_right h1, List.getElem_map, List.getElem_drop, ← kAt_at, bkL_at (by omega), hD]
    rw [show b.length - 1 - (1 + (j - b.length)) = 2 * b.length - 2 - j by omega]
    unfold bkF mdK
    simp only [keyF_0, keyF_1, keyF_2]
    congr 1
    omega
  refine ⟨?_, hl⟩
  unfold jnC
  rw [if_pos (by rw [hv, hv2]; rfl), if_pos hS, if_pos]
  have hlast : ∀ j, j < b.length → kAt b j 0 ≤ kAt b (b.length - 1) 0 := fun j hj => (drP_ends h hj).2
  rw [tkOk_end fun j hj => ?_, inB_iff]
  · omega
  · rw [hl] at hj
    unfold tkAt
    rw [Bool.and_eq_true]
    constructor
    · rw [okK_iff]
      rcases Nat.lt_or_ge j b.length with h2 | h2
      · rw [lo j h2]
        obtain ⟨⟨_, _⟩, ⟨_, _⟩, ⟨_, _⟩⟩ := drP_key h h2
        simp only [mdK, keyF_0, keyF_1, keyF_2]; omega
      · rw [hi j h2 hj]
        have hq : 2 * b.length - 2 - j < b.length := by omega
        obtain ⟨⟨_, _⟩, ⟨_, _⟩, ⟨_, _⟩⟩ := drP_key h hq
        obtain ⟨⟨_, _⟩, _⟩ := drP_key h (show b.length - 1 < b.length by omega)
        have := hlast _ hq
        simp only [keyF_0, keyF_1, keyF_2]; omega
    · by_cases e : j = 0
      · simp [e]
      · have : kAt (jnL b (bkL b)) (j - 1) 0 < kAt (jnL b (bkL b)) j 0 := by
          rcases Nat.lt_or_ge j b.length with h2 | h2
          · rw [lo j h2, lo (j - 1) (by omega)]
            exact drP_mono h (by omega) h2
          · rw [hi j h2 hj]
            rcases Nat.lt_or_ge (j - 1) b.length with h3 | h3
            · rw [lo (j - 1) h3]
              have e2 : j - 1 = b.length - 1 := by omega
              have := drP_mono h (show 2 * b.length - 2 - j < b.length - 1 by omega) (by omega)
              rw [e2]
              simp only [mdK, keyF_0]; omega
            · rw [hi (j - 1) h3 (by omega)]
              have := drP_mono h (show 2 * b.length - 2 - j < 2 * b.length - 2 - (j - 1) by omega) (by omega)
              simp only [keyF_0]; omega
        simp [this]
end Go.Proofs.YtcebmjajnbafoaaGreatDoor
namespace Go.Proofs.YtcebmjajnbafoaaGreatDoor
open Go Go.Sx
theorem upT_snoc {A : List (Nat → Int)} {x : Nat → Int} (h : UpT A) (hl : 0 < A.length → kAt A (A.length - 1) 0 < x 0) : UpT (A ++ [x]) := fun j hj => by
  rw [List.length_append, List.length_singleton] at hj
  rw [kAt_left (by omega)]
  by_cases e : j + 1 = A.length
  · rw [kAt_last e]
    have := hl (by omega)
    rwa [show A.length - 1 = j by omega] at this
  · rw [kAt_left (by omega)]; exact h j (by omega)
theorem last_snoc {A : List (Nat → Int)} {x : Nat → Int} : kAt (A ++ [x]) ((A ++ [x]).length - 1) = x := kAt_last (by simp)
structure ArP (b : List (Nat → Int)) (n : Nat) (A : List (Nat → Int)) : Prop where
  fine : ∀ a ∈ A, okK a = true
  up : UpT A
  last : 0 < n → kAt A (A.length - 1) = kAt b (n - 1)
  has : ∀ j, j < n → kAt b j ∈ A
  len : n ≤ A.length
  nil : n = 0 → A = []
theorem arN_P {b : List (Nat → Int)} (h : DrP b) : ∀ n, n ≤ b.length → ArP b n (arN b 3 n)
  | 0, _ => ⟨fun a ha => (by cases ha), fun j hj => (by simp [arN] at hj), fun h => absurd h (by omega), fun j hj => absurd hj (by omega), Nat.zero_le _, fun _ => rfl⟩
  | n + 1, hn => by
    have ih := arN_P h n (by omega)
    have hk : okK (kAt b n) = true := by rw [kAt_at (by omega)]; exact (tkOk_at (drP_ok h) (by omega)).1
    have key : ∀ B : List (Nat → Int), (∀ a ∈ B, okK a = true) → UpT B → (0 < B.length → kAt B (B.length - 1) 0 < kAt b n 0) → (∀ j, j < n → kAt b j ∈ B) → n ≤ B.length → ArP b (n + 1) (B ++ [kAt b n]) := fun B f u l hs hl => by
      refine ⟨fun a ha => ?_, upT_snoc u l, fun _ => last_snoc, fun j hj => ?_, by rw [List.length_append, List.length_singleton]; omega, fun e => by omega⟩
      · rcases List.mem_append.1 ha with ha | ha
        · exact f a ha
        · rw [List.mem_singleton.1 ha]; exact hk
      · by_cases e : j = n
        · subst e; simp
        · exact List.mem_append_left _ (hs j (by omega))
    unfold arN
    by_cases h0 : n = 0
    · subst h0
      have e : arN b 3 0 ++ arS b 3 0 ++ [kAt b 0] = [] ++ [kAt b 0] := rfl
      rw [e]
      exact key [] (fun a ha => by cases ha) (fun j hj => by simp at hj) (fun hh => absurd hh (by simp)) (fun j hj => absurd hj (by omega)) (Nat.zero_le _)
    have hlast := ih.last (by omega)
    have hup := drP_mono h (show n - 1 < n by omega) (by omega)
    have d0 := drP_key h (show n - 1 < b.length by omega)
    have d1 := drP_key h (show n < b.length by omega)
    by_cases h2 : 2 ≤ kAt b n 0 - kAt b (n - 1) 0
    · have e : arS b 3 n = [midK b 3 n] := by unfold arS; rw [if_neg h0, if_pos h2]
      rw [e]
      have t0 : midK b 3 n 0 = (kAt b (n - 1) 0 + kAt b n 0) / 2 := by
        unfold midK; rw [keyF_0, Int.tdiv_eq_ediv_of_nonneg (by have := d0.1.1; have := d1.1.1; omega)]
      have r1 := betweenR_range (a := kAt b (n - 1) 1) (b := kAt b n 1) (s := 500) (by omega) (by omega) d0.2.1 d1.2.1
      have r2 := betweenR_range (a := kAt b (n - 1) 2) (b := kAt b n 2) (s := 500) (by omega) (by omega) d0.2.2 d1.2.2
      have hm : okK (midK b 3 n) = true := by
        rw [okK_iff, t0]
        have x1 : midK b 3 n 1 = betweenR (kAt b (n - 1) 1) (kAt b n 1) 500 := rfl
        have x2 : midK b 3 n 2 = betweenR (kAt b (n - 1) 2) (kAt b n 2) 500 - 3 := rfl
        rw [x1, x2]
        obtain ⟨⟨_, _⟩, _⟩ := d0
        obtain ⟨⟨_, _⟩, _⟩ := d1
        omega
      refine key _ (fun a ha => ?_) (upT_snoc ih.up fun _ => ?_) (fun _ => ?_) (fun j hj => List.mem_append_left _ (ih.has j hj)) (by rw [List.length_append]; have := ih.len; omega)
      · rcases List.mem_append.1 ha with ha | ha
        · exact ih.fine a ha
        · rw [List.mem_singleton.1 ha]; exact hm
      · rw [hlast, t0]; omega
      · rw [last_snoc, t0]; omega
    · have e : arS b 3 n = [] := by unfold arS; rw [if_neg h0, if_neg h2]
      rw [e, List.append_nil]
      exact key _ ih.fine ih.up (fun _ => by rw [hlast]; exact hup) ih.has ih.len
theorem ar_ok {b : List (Nat → Int)} (h : DrP b) (hN : b.map mdK = b) : arC b 3 = 0 ∧ b.length ≤ (arL b 3).length ∧ tkOk (arL b 3) = true ∧ ∀ j, j < b.length → ∃ q, q < (arL b 3).length ∧ kAt (arL b 3) q = kAt b j := by
  have A := arN_P h b.length (Nat.le_refl _)
  have h1 := h.n1
  have h5 := h.n5
  have hl := arL_len b 3
  have h10 := arN_len b 3 b.length
  have hlen := A.len
  have hat : ∀ j, j < (arN b 3 b.length).length → kAt (arL b 3) j = mdK (kAt (arN b 3 b.length) j) := fun j hj => by
    unfold arL
    rw [kAt_map hj, kAt_at hj]
  have ht : tkOk (arL b 3) = true := by
    rw [tkOk_end fun j hj => ?_, inB_iff]
    · omega
    · rw [hl] at hj
      unfold tkAt
      rw [Bool.and_eq_true, hat j hj]
      constructor
      · have := A.fine _ (List.getElem_mem hj)
        rw [← kAt_at hj] at this
        exact this
      · by_cases e : j = 0
        · simp [e]
        · rw [hat (j - 1) (by omega)]
          have := A.up (j - 1) (by omega)
          rw [show j - 1 + 1 = j by omega] at this
          have e2 : mdK (kAt (arN b 3 b.length) (j - 1)) 0 < mdK (kAt (arN b 3 b.length) j) 0 := this
          simp [e2]
  refine ⟨?_, by omega, ht, fun j hj => ?_⟩
  · unfold arC
    rw [if_pos (drP_ok h), if_pos (by simp [inB]), if_pos ht]
  · obtain ⟨q, hq, e⟩ := List.mem_iff_getElem.1 (A.has j hj)
    refine ⟨q, by omega, ?_⟩
    rw [hat q hq, kAt_at hq, e]
    exact map_md_at hN hj
/-- The greatest of the first numbers, or nought. -/
def hiT (l : List Int) : Nat → Int
  | 0 => 0
  | n + 1 => max (hiT l n) (nth0 l n)
theorem hiT_mx {l : List Int} (h : ∀ n, 0 ≤ nth0 l n) : ∀ n, hiT l (n + 1) = mxT l n
  | 0 => by
    have := h 0
    unfold hiT mxT hiT; omega
  | n + 1 => by
    have ih := hiT_mx h n
    unfold hiT mxT
    rw [ih]
end Go.Proofs.YtcebmjajnbafoaaGreatDoor
namespace Go.Proofs.YtcebmjajnbafoaaGreatDoor
open Go Go.Shelf
def lays156_ren : Go.Shelf.Ren := ⟨fun | 156 => 38 | 165 => 75 | 166 => 76 | 169 => 77 | 240 => 91 | 241 => 92 | 276 => 110 | 277 => 111 | n => n, fun | 31 => 54 | 9 => 9 | 3 => 3 | 4 => 4 | 0 => 0 | 20 => 20 | 72 => 99 | 76 => 101 | 70 => 97 | 37 => 22 | 75 => 93 | 127 => 111 | 164 => 128 | 5 => 5 | 80 => 103 | n => n, fun | n => n⟩
theorem lays156 : Go.Proofs.Lays.n156 Tryz.prog lays156_ren := {
  mixed := by kernel_rfl
  f156 := Tryz.func38.trans (congrArg some (by kernel_rfl))
  f165 := Tryz.func75.trans (congrArg some (by kernel_rfl))
  f166 := Tryz.func76.trans (congrArg some (by kernel_rfl))
  f169 := Tryz.func77.trans (congrArg some (by kernel_rfl))
  f240 := Tryz.func91.trans (congrArg some (by kernel_rfl))
  f241 := Tryz.func92.trans (congrArg some (by kernel_rfl))
  f276 := Tryz.func110.trans (congrArg some (by kernel_rfl))
  f277 := Tryz.func111.trans (congrArg some (by kernel_rfl))
  t0 := Tryz.underlying0
  a0 := Tryz.isAgg0
  z0 := Tryz.sizeOf0
  v0 := Tryz.zeroValue0
  t3 := Tryz.underlying3
  a3 := Tryz.isAgg3
  z3 := Tryz.sizeOf3
  v3 := Tryz.zeroValue3
  t4 := Tryz.underlying4
  a4 := Tryz.isAgg4
  z4 := Tryz.sizeOf4
  v4 := Tryz.zeroValue4
  t9 := Tryz.underlying9
  a9 := Tryz.isAgg9
  z9 := Tryz.sizeOf9
  v9 := Tryz.zeroValue9
  t20 := Tryz.underlying20
  a20 := Tryz.isAgg20
  z20 := Tryz.sizeOf20
  v20 := Tryz.zeroValue20
  t31 := Tryz.underlying54
  a31 := Tryz.isAgg54
  z31 := Tryz.sizeOf54
  v31 := Tryz.zeroValue54
  t37 := Tryz.underlying22
  a37 := Tryz.isAgg22
  z37 := Tryz.sizeOf22
  v37 := Tryz.zeroValue22
  t70 := Tryz.underlying97
  a70 := Tryz.isAgg97
  z70 := Tryz.sizeOf97
  v70 := Tryz.zeroValue97
  t72 := Tryz.underlying99
  a72 := Tryz.isAgg99
  z72 := Tryz.sizeOf99
  v72 := Tryz.zeroValue99
  t75 := Tryz.underlying93
  a75 := Tryz.isAgg93
  z75 := Tryz.sizeOf93
  v75 := Tryz.zeroValue93
  t76 := Tryz.underlying101
  a76 := Tryz.isAgg101
  z76 := Tryz.sizeOf101
  v76 := Tryz.zeroValue101
  t127 := Tryz.underlying111
  a127 := Tryz.isAgg111
  z127 := Tryz.sizeOf111
  v127 := Tryz.zeroValue111
  t164 := Tryz.underlying128
  a164 := Tryz.isAgg128
  z164 := Tryz.sizeOf128
  v164 := Tryz.zeroValue128 }
end Go.Proofs.YtcebmjajnbafoaaGreatDoor
namespace Go.Proofs.YtcebmjajnbafoaaGreatDoor
open Go Go.Sx
open Go.Shelf Go.Proofs
theorem extra156 : Builder.Extra Tryz.prog lays156_ren where
  sizeBuilder := by kernel_rfl
  liesBuilder := by kernel_rfl
  t5 := Tryz.underlying5
  a5 := Tryz.isAgg5
  z5 := Tryz.sizeOf5
  v5 := Tryz.zeroValue5
  infoByte := by kernel_rfl
  cellsByte := by kernel_rfl
  sizeByte := by kernel_rfl
  neB5 := by decide
/-- The texts, joined. -/
def joinT (xs : List (List Int)) (sep : List Int) : ByteArray := ⟨(Lib.join ((xs.map bstr).map (·.data.toList)) (bstr sep).data.toList).toArray⟩
theorem joinC {H : List Blk} {i n : Nat} {c : Cap} {xs : List (List Int)} {sep : List Int} (hr : H[i]? = some ⟨xs.flatMap sC, 9, .own 1⟩) (hn : n = xs.length) (hc : c = .w ∨ c = .u 0) (hlen : (Lib.join ((xs.map bstr).map (·.data.toList)) (bstr sep).data.toList).length ≤ 100000) (hN : xs.length ≤ 1000) :
    Cal Tryz.prog 38 [.s i 0 n c, .v (.string (bstr sep))] H fun u H' => u = .v (.string (joinT xs sep)) ∧ H' = H := by
  subst hn
  refine cal_below (by kernel_rfl) (r := .v (.string (joinT xs sep))) (by simp [go_sem]) fun σ w hw hl => ?_
  have hh := hw.holds i _ hr
  have hcell := fun j u => (hh.cell (j := j) (u := u) rfl)
  obtain ⟨r0, cur, m, hrg, hm, hcap, hsz, hmax, htake⟩ := (hh : _ ∧ _)
  rw [flat_sC.flen] at hm
  have hml : m = xs.length := by simp only [Nat.mul_one] at hm; exact hm.symm
  subst hml
  have hcv : c.val (σ i).cap = (σ i).cap := by rcases hc with rfl | rfl <;> rfl
  have ec : (concs σ [V.s i 0 xs.length c, .v (.string (bstr sep))]).toArray = #[.slice (some ⟨(σ i).blk, 0, none⟩) (xs.map bstr).length (σ i).cap, .string (bstr sep)] := by simp [concs, conc, r0, hcv]
  rw [ec]
  refine (Any.strings_Join lays156 extra156 (σ i).blk 0 (σ i).cap (xs.map bstr) (bstr sep) w ?_ ?_ ?_ ?_ ?_).mono ?_
  · intro j x hx
    have h1 : (concs σ (xs.flatMap sC))[j]? = some (Value.string x) := by
      rw [sC_map, concs_eq, List.map_map, List.getElem?_map]
      rw [List.getElem?_map] at hx
      cases h2 : xs[j]? with
      | none => rw [h2] at hx; cases hx
      | some y => rw [h2] at hx; cases hx; rfl
    have h3 := hcell j _ h1
    rw [r0] at h3
    exact h3
  · exact (Array.getElem?_eq_some_iff.1 hrg).1
  · simp; omega
  · simp; exact hcap
  · omega
  · rintro e w' ⟨rfl, hb⟩
    exact ⟨rfl, hb⟩
def decT (i : Nat) : List Int := bytI ⟨(Lib.decDigits i).toArray⟩
theorem dec_small {i : Nat} (h : i < 10) : Lib.decDigits i = [UInt8.ofNat (48 + i)] := by rw [Lib.decDigits, dif_pos h]
theorem dec_two {i : Nat} (h : 10 ≤ i) (h2 : i < 100) : Lib.decDigits i = [UInt8.ofNat (48 + i / 10), UInt8.ofNat (48 + i % 10)] := by
  rw [Lib.decDigits, dif_neg (by omega), dec_small (by omega)]; rfl
theorem decT_small {i : Nat} (h : i < 10) : decT i = [((48 + i : Nat) : Int)] := by
  unfold decT bytI
  rw [dec_small h]
  simp
  omega
theorem decT_two {i : Nat} (h : 10 ≤ i) (h2 : i < 100) : decT i = [((48 + i / 10 : Nat) : Int), ((48 + i % 10 : Nat) : Int)] := by
  unfold decT bytI
  rw [dec_two h h2]
  simp
  omega
theorem decT_len {i : Nat} (h2 : i < 100) : (decT i).length ≤ 2 := by
  by_cases h : i < 10
  · rw [decT_small h]; simp
  · rw [decT_two (by omega) h2]; simp
end Go.Proofs.YtcebmjajnbafoaaGreatDoor
namespace Go.Proofs.YtcebmjajnbafoaaGreatDoor
open Go Go.Sx
/-- Texts joined. -/
def jnT (s : List Int) : List (List Int) → List Int
  | [] => []
  | x :: r => x ++ r.flatMap (s ++ ·)
theorem jnT_one (s x : List Int) : jnT s [x] = x := by simp [jnT]
theorem jnT_len {s : List Int} {k : Nat} : ∀ {xs : List (List Int)}, (∀ x ∈ xs, x.length + s.length ≤ k) → (jnT s xs).length ≤ k * xs.length
  | [], _ => by simp [jnT]
  | x :: r, h => by
    have h0 := h x (List.mem_cons_self ..)
    have : ∀ (r : List (List Int)), (∀ x ∈ r, x.length + s.length ≤ k) → (r.flatMap (s ++ ·)).length ≤ k * r.length := by
      intro r
      induction r with
      | nil => simp
      | cons a r ih =>
        intro h
        have h1 := h a (List.mem_cons_self ..)
        have h2 := ih fun x hx => h x (List.mem_cons_of_mem _ hx)
        simp only [List.flatMap_cons, List.length_append, List.length_cons, Nat.mul_succ]
        omega
    have h1 := this r fun x hx => h x (List.mem_cons_of_mem _ hx)
    simp only [jnT, List.length_append, List.length_cons, Nat.mul_succ]
    omega
def u8L (l : List Int) : List UInt8 := l.map fun n => UInt8.ofNat n.toNat
theorem bstr_u8 (l : List Int) : (bstr l).data.toList = u8L l := by simp [bstr, u8L]
theorem join_u8 (s : List Int) (xs : List (List Int)) : Lib.join (xs.map u8L) (u8L s) = u8L (jnT s xs) := by
  cases xs with
  | nil => rfl
  | cons x r =>
    rw [List.map_cons, Lib.join_cons]
    unfold Lib.joinTail jnT
    simp [u8L, List.map_flatMap, List.flatMap_def, Function.comp_def]
theorem join_bstr (s : List Int) (xs : List (List Int)) : Lib.join ((xs.map bstr).map (·.data.toList)) (bstr s).data.toList = u8L (jnT s xs) := by
  rw [bstr_u8, ← join_u8, List.map_map]
  congr 1
theorem joinT_eq (xs : List (List Int)) (s : List Int) : joinT xs s = bstr (jnT s xs) := by
  unfold joinT
  rw [join_bstr]
  rfl
theorem join_len (s : List Int) (xs : List (List Int)) : (Lib.join ((xs.map bstr).map (·.data.toList)) (bstr s).data.toList).length = (jnT s xs).length := by
  rw [join_bstr]; simp [u8L]
theorem bs32 : (ByteArray.mk #[32]) = bstr [32] := rfl
theorem bs0 : (ByteArray.mk #[]) = bstr [] := rfl
end Go.Proofs.YtcebmjajnbafoaaGreatDoor
namespace Go.Proofs.YtcebmjajnbafoaaGreatDoor
open Go Go.Shelf
def laysM173_ren : Go.Shelf.Ren := ⟨fun | 173 => 74 | 246 => 90 | 283 => 106 | 284 => 107 | 285 => 108 | 286 => 109 | 129 => 123 | 317 => 122 | 318 => 124 | 319 => 125 | 320 => 126 | 337 => 129 | 338 => 130 | n => n, fun | 2 => 2 | 3 => 3 | 9 => 9 | 4 => 4 | 171 => 123 | 0 => 0 | 53 => 87 | 37 => 22 | 5 => 5 | 173 => 126 | 212 => 144 | 51 => 134 | 20 => 20 | 213 => 145 | 46 => 107 | 232 => 156 | 233 => 157 | n => n, fun | 17 => 3 | 18 => 6 | 19 => 7 | n => n⟩
theorem laysM173 : Go.Proofs.LaysM.n173 Tryz.prog laysM173_ren := {
  mixed := by kernel_rfl
  f129 := Tryz.func123.trans (congrArg some (by kernel_rfl))
  f173 := Tryz.func74.trans (congrArg some (by kernel_rfl))
  f246 := Tryz.func90.trans (congrArg some (by kernel_rfl))
  f283 := Tryz.func106.trans (congrArg some (by kernel_rfl))
  f284 := Tryz.func107.trans (congrArg some (by kernel_rfl))
  f285 := Tryz.func108.trans (congrArg some (by kernel_rfl))
  f286 := Tryz.func109.trans (congrArg some (by kernel_rfl))
  f317 := Tryz.func122.trans (congrArg some (by kernel_rfl))
  f318 := Tryz.func124.trans (congrArg some (by kernel_rfl))
  f319 := Tryz.func125.trans (congrArg some (by kernel_rfl))
  f320 := Tryz.func126.trans (congrArg some (by kernel_rfl))
  f337 := Tryz.func129.trans (congrArg some (by kernel_rfl))
  f338 := Tryz.func130.trans (congrArg some (by kernel_rfl))
  t0 := Tryz.underlying0
  a0 := Tryz.isAgg0
  z0 := Tryz.sizeOf0
  v0 := Tryz.zeroValue0
  t2 := Tryz.underlying2
  a2 := Tryz.isAgg2
  z2 := Tryz.sizeOf2
  v2 := Tryz.zeroValue2
  t3 := Tryz.underlying3
  a3 := Tryz.isAgg3
  z3 := Tryz.sizeOf3
  v3 := Tryz.zeroValue3
  t4 := Tryz.underlying4
  a4 := Tryz.isAgg4
  z4 := Tryz.sizeOf4
  v4 := Tryz.zeroValue4
  t5 := Tryz.underlying5
  a5 := Tryz.isAgg5
  z5 := Tryz.sizeOf5
  v5 := Tryz.zeroValue5
  t9 := Tryz.underlying9
  a9 := Tryz.isAgg9
  z9 := Tryz.sizeOf9
  v9 := Tryz.zeroValue9
  t20 := Tryz.underlying20
  a20 := Tryz.isAgg20
  z20 := Tryz.sizeOf20
  v20 := Tryz.zeroValue20
  t37 := Tryz.underlying22
  a37 := Tryz.isAgg22
  z37 := Tryz.sizeOf22
  v37 := Tryz.zeroValue22
  t46 := Tryz.underlying107
  a46 := Tryz.isAgg107
  z46 := Tryz.sizeOf107
  v46 := Tryz.zeroValue107
  t51 := Tryz.underlying134
  a51 := Tryz.isAgg134
  z51 := Tryz.sizeOf134
  v51 := Tryz.zeroValue134
  t53 := Tryz.underlying87
  a53 := Tryz.isAgg87
  z53 := Tryz.sizeOf87
  v53 := Tryz.zeroValue87
  t171 := Tryz.underlying123
  a171 := Tryz.isAgg123
  z171 := Tryz.sizeOf123
  v171 := Tryz.zeroValue123
  t173 := Tryz.underlying126
  a173 := Tryz.isAgg126
  z173 := Tryz.sizeOf126
  v173 := Tryz.zeroValue126
  t212 := Tryz.underlying144
  a212 := Tryz.isAgg144
  z212 := Tryz.sizeOf144
  v212 := Tryz.zeroValue144
  t213 := Tryz.underlying145
  a213 := Tryz.isAgg145
  z213 := Tryz.sizeOf145
  t232 := Tryz.underlying156
  a232 := Tryz.isAgg156
  z232 := Tryz.sizeOf156
  v232 := Tryz.zeroValue156
  t233 := Tryz.underlying157
  a233 := Tryz.isAgg157
  z233 := Tryz.sizeOf157
  v233 := Tryz.zeroValue157
  g17 := by kernel_rfl
  g18 := by kernel_rfl
  g19 := by kernel_rfl
  i0 := by kernel_rfl
  i2 := by kernel_rfl
  i3 := by kernel_rfl
  i4 := by kernel_rfl
  i5 := by kernel_rfl
  i9 := by kernel_rfl
  i20 := by kernel_rfl
  i37 := by kernel_rfl
  i46 := by kernel_rfl
  i51 := by kernel_rfl
  i53 := by kernel_rfl
  i171 := by kernel_rfl
  i173 := by kernel_rfl
  i212 := by kernel_rfl
  i232 := by kernel_rfl
  i233 := by kernel_rfl
  m17 := by kernel_rfl
  m18 := by kernel_rfl
  m19 := by kernel_rfl }
end Go.Proofs.YtcebmjajnbafoaaGreatDoor
namespace Go.Proofs.YtcebmjajnbafoaaGreatDoor
open Go Go.Sx
open Go.Shelf Go.Proofs
/-- The table of powers of ten, as the package variable holds it. -/
def powC : List V := Lib.pow10Tab.map fun z => .v (.int .u64 z)
/-- The first block is the table of powers. -/
structure Pow (H : List Blk) : Prop where
  pow : H[0]? = some ⟨powC, 0, .pin 3⟩
theorem Pow.app {H L : List Blk} (h : Pow H) : Pow (H ++ L) := ⟨get_app h.pow⟩
theorem powC_conc (σ : Nat → Go.Sx.Loc) : concs σ powC = Lib.pow10Tab.map fun z => Value.int .u64 z := by
  unfold powC; rw [concs_eq, List.map_map]; rfl
theorem pow_is {σ : Nat → Go.Sx.Loc} {H : List Blk} {w : World} (hw : HRel σ H w) (hp : Pow H) : Lib.TabIs Tryz.prog w "internal/strconv.uint64pow10" .u64 Lib.pow10Tab := by
  unfold Lib.TabIs
  rw [hw.pin_var (P := Tryz.prog) hp.pow (by kernel_rfl), powC_conc]
theorem fmtIntG {H : List Blk} (hp : Pow H) {i : Int} (h0 : -1000000 ≤ i) (h1 : i ≤ 1000000) : Cal Tryz.prog 74 [.v (.int .i64 i), .v (.int .i64 10)] H fun u H' => u = .v (.string ⟨(Lib.itoa i).toArray⟩) ∧ H' = H := by
  refine cal_below (by kernel_rfl) (r := .v (.string ⟨(Lib.itoa i).toArray⟩)) (by simp [go_sem]) fun σ w hw hl => ?_
  refine (Any.strconv_FormatInt_10 laysM173 i (by omega) (by omega) w (pow_is hw hp)).mono ?_
  rintro e w' ⟨rfl, k, os, rfl⟩
  refine ⟨rfl, rfl, rfl, rfl, by simp [Go.Sort.grow, World.drewN], fun j hj => ?_⟩
  show (w.heap ++ os)[j]? = w.heap[j]?
  rw [Array.getElem?_append_left hj]
/-- A number's text. -/
def decI (i : Int) : List Int := bytI ⟨(Lib.itoa i).toArray⟩
theorem bstr_decI (i : Int) : bstr (decI i) = ⟨(Lib.itoa i).toArray⟩ := bstr_bytI _
theorem decI_8 (i : Int) : B8 (decI i) := bytI_8 _
theorem decI_nat (k : Nat) : decI (k : Int) = decT k := by unfold decI decT; rw [Lib.itoa_nonneg]
theorem decI_neg {k : Nat} (h : 1 ≤ k) : decI (-(k : Int)) = 45 :: decT k := by
  unfold decI decT
  rw [Lib.itoa_neg k h]
  simp [bytI]
theorem decT_big {i : Nat} (h : 10 ≤ i) : decT i = decT (i / 10) ++ [((48 + i % 10 : Nat) : Int)] := by
  unfold decT bytI
  rw [Lib.decDigits, dif_neg (by omega)]
  simp
  omega
theorem decT_len3 {i : Nat} (h : i < 1000) : (decT i).length ≤ 3 := by
  by_cases h2 : i < 100
  · have := decT_len h2; omega
  · have := decT_len (i := i / 10) (by omega)
    rw [decT_big (by omega)]
    simp; omega
theorem decI_len {i : Int} (h0 : -100 < i) (h1 : i < 1000) : (decI i).length ≤ 3 := by
  rcases Int.lt_or_le i 0 with h | h
  · obtain ⟨k, hk⟩ : ∃ k : Nat, i = -(k : Int) := ⟨i.natAbs, by omega⟩
    subst hk
    have := decT_len (i := k) (by omega)
    rw [decI_neg (by omega)]
    simp; omega
  · obtain ⟨k, rfl⟩ := Int.eq_ofNat_of_zero_le h
    rw [decI_nat]
    exact decT_len3 (by omega)
theorem decimalG {H : List Blk} (hp : Pow H) {i : Int} (h0 : -1000000 ≤ i) (h1 : i ≤ 1000000) : Cal Tryz.prog 37 [.v (.int .i64 i)] H fun u H' => u = .v (.string (bstr (decI i))) ∧ H' = H := by
  rw [bstr_decI]
  refine cal_fn 4 mixed Tryz.func37 Tryz.ntmps37 Tryz.results37 rfl rfl rfl fun hw cx hx hq => ?_
  repeat (first | (simp only [go_sem, Int.reduceLT, Int.reduceLE, Int.reduceEq, Int.reduceToNat]) | ((with_reducible refine And.intro ?_ ?_); omega) | ((with_reducible refine isSK ?_); first | (refine call_ret (fmtIntG hp h0 h1) (by simp only [go_sem, Int.reduceLT, Int.reduceLE, Int.reduceEq, Int.reduceToNat]) ?_)) | ((with_reducible refine And.intro ?_ ?_); first | (with_reducible rfl) | assumption | (simp only [go_sem]; done)))
  refine ret_same hq _ (.inl rfl) ?_
  simp [go_sem]
end Go.Proofs.YtcebmjajnbafoaaGreatDoor
