/- Contracts of functions of the translated program, by the walk. -/
import Derived.Test.YtjkkallcgplgmaaIn1
set_option linter.unusedVariables false
set_option linter.unusedSimpArgs false
set_option maxRecDepth 8000
set_option maxHeartbeats 4000000
namespace Go.Proofs.Ytjkkallcgplgmaa
open Go Go.Sx
open Go.Proofs Go.Shelf Go.RowKit Go.Lib
set_option maxHeartbeats 4000000 in
set_option maxRecDepth 100000 in
theorem insGrowWalk (b n c i vb vc G N : Nat) (w W1 W2 W3 : World) (hi : i < n) (hnc : n ≤ c) (hroom : c < n + 1) (hGn : n + 1 ≤ G) (hG63 : G ≤ 9223372036854775807) (hn9 : n ≤ 1000000)
    (hrz : ∀ ty, (Builtin.append_ #[27, 3] ty #[.slice (some ⟨b, 0, none⟩) i c, .int .i64 ((n : Int) + 1 - (i : Int))]).run Try.prog w = .ok (.slice (some ⟨N, 0, none⟩) (n + 1) G) W1)
    (hcpA : ∀ ty dc, (Builtin.copy_ #[27, 26] ty #[.slice (some ⟨N, i * 12, none⟩) (n + 1 - i) dc, .slice (some ⟨vb, 0, none⟩) 1 vc]).run Try.prog W1 = .ok (goInt (1 : Nat)) W2)
    (hcpB : ∀ ty dc sc, (Builtin.copy_ #[27, 27] ty #[.slice (some ⟨N, (i + 1) * 12, none⟩) (n - i) dc, .slice (some ⟨b, i * 12, none⟩) (n - i) sc]).run Try.prog W2.drew = .ok (goInt (n - i : Nat)) W3) :
    Calls Try.prog 96 #[.slice (some ⟨b, 0, none⟩) n c, .int .i64 i, .slice (some ⟨vb, 0, none⟩) 1 vc] w fun e w' => e = .returned (.slice (some ⟨N, 0, none⟩) (n + 1) G) ∧ w' = W3 := by
  have mixed := mixed
  have hz1 : ¬ ((i : Int) = (n : Int)) := by omega
  have hz3 : (c : Int) < (n : Int) + 1 := by omega
  have hw1 : IntKind.i64.wrap ((n : Int) + 1) = (n : Int) + 1 := by rw [IntKind.wrap_i64]; omega
  have hw2 : IntKind.i64.wrap ((i : Int) + 1) = (i : Int) + 1 := by rw [IntKind.wrap_i64]; omega
  have hw3 : IntKind.i64.wrap ((n : Int) + 1 - (i : Int)) = (n : Int) + 1 - (i : Int) := by rw [IntKind.wrap_i64]; omega
  have hb1 : (0 : Int) ≤ (i : Int) + 1 := by omega
  have hb3 : (i : Int) ≤ (n : Int) + 1 := by omega
  have hb5 : (i : Int) ≤ (n : Int) := by omega
  have hin : i ≤ n := by omega
  have hic : i ≤ c := by omega
  have hGi : ¬ (G = i) := by omega
  have hGim : ¬ (G = i + 1) := by omega
  have hci : ¬ (c = i) := by omega
  clear hroom hnc
  go_enter Try.func96, Try.ntmps96
  go_wp2_with (at_builtin; refine Lib.wpList_append_run _ rfl _ _ _ _ rfl _ _ rfl rfl _ _ (hrz _) ?_)
  go_region_law_o (refine step_copy_runI rfl _ _ 27 27 rfl _ _ (by simp [Act.eval, Act.put]) (by simp [Act.eval, Act.put]) (hcpB _ _ _) ?_)
  go_wp2
  go_ret
  exact ⟨rfl, rfl⟩
theorem frameInfo : (Try.prog.info? 64).map (fun i => (i.zero.map (·.cells.size), i.size, i.bytes)) = some (some 12, 12, 24) := by kernel_rfl
/-- slices.Insert of one page ahead of a page, where there is no room: a new row. -/
theorem insGrow (b n c i vb vc : Nat) (cur : Array Value) (cs vs : List Value) (tv : TypeId) (curV : Array Value) (w : World) (hi : i < n) (hnc : n ≤ c) (hroom : c < n + 1) (hvb : vb ≠ b) (hn9 : n ≤ 1000000)
    (hb : w.heap[b]? = some (.cells cur 64 (0, 0))) (hv : w.heap[vb]? = some (.cells curV tv (0, 0))) (hsz : cur.size = c * 12)
    (hcl : cs.length = n * 12) (hvl : vs.length = 12) (hcs : cur.toList.take (n * 12) = cs) (hvs : curV.toList.take 12 = vs) (h1c : ∀ v ∈ cs, v.oneCell' = true) (h1v : ∀ v ∈ vs, v.oneCell' = true) :
    Calls Try.prog 96 #[.slice (some ⟨b, 0, none⟩) n c, .int .i64 i, .slice (some ⟨vb, 0, none⟩) 1 vc] w fun e w' =>
      ∃ v, e = .returned v ∧ w'.ownsRow w.heap.size 64 12 v (n + 1) (cs.take (i * 12) ++ vs ++ cs.drop (i * 12)) ∧ Below w.heap.size w w' := by
  have mixed := mixed
  have hz1 : ¬ ((i : Int) = (n : Int)) := by omega
  have hz3 : (c : Int) < (n : Int) + 1 := by omega
  have hw1 : IntKind.i64.wrap ((n : Int) + 1) = (n : Int) + 1 := by rw [IntKind.wrap_i64]; omega
  have hw2 : IntKind.i64.wrap ((i : Int) + 1) = (i : Int) + 1 := by rw [IntKind.wrap_i64]; omega
  have hb1 : (0 : Int) ≤ (i : Int) + 1 := by omega
  have hb3 : (i : Int) ≤ (n : Int) + 1 := by omega
  have hin : i ≤ n := by omega
  have hi12 : i * 12 ≤ n * 12 := Nat.mul_le_mul_right _ hin
  have hin12 : (i + 1) * 12 ≤ n * 12 := Nat.mul_le_mul_right _ hi
  have hcurl : cur.toList.length = c * 12 := by rw [Array.length_toList]; exact hsz
  have hcn : c = n := by omega
  obtain ⟨i0, hi0, hz0⟩ := Option.map_eq_some_iff.1 frameInfo
  simp only [Prod.mk.injEq] at hz0
  obtain ⟨hzz, hzs, hzb⟩ := hz0
  obtain ⟨z, hz, hzc⟩ := Option.map_eq_some_iff.1 hzz
  have hbw : b < w.heap.size := (Array.getElem?_eq_some_iff.1 hb).1
  have hvw : vb < w.heap.size := (Array.getElem?_eq_some_iff.1 hv).1
  have hcell : ∀ j v, cs[j]? = some v → w.cell? ⟨b, j, none⟩ = some v := fun j v hj => by
    rw [← hcs, List.getElem?_take] at hj
    split at hj
    · simp [World.cell?, hb]; simpa using hj
    · cases hj
  have hold : (Builtin.firstCells i0.size i (.slice (some ⟨b, 0, none⟩) i c)).run Try.prog w.drew = .ok (cs.take (i * 12)).toArray w.drew := by
    rw [hzs]
    exact run_firstCells_some w.drew 12 i ⟨b, 0, none⟩ i c (cs.take (i * 12)) (by rw [List.length_take]; omega) (fun j v hj => by
      rw [Addr.add_lit, Nat.zero_add]
      rw [List.getElem?_take] at hj
      split at hj
      · exact hcell j v hj
      · cases hj)
  obtain ⟨G, hG⟩ : ∃ G, G = grownCap w (n + 1) c 64 := ⟨_, rfl⟩
  obtain ⟨ROW, hROW⟩ : ∃ ROW : Array Value, ROW = (cs.take (i * 12)).toArray ++ Builtin.zeroCells z.cells (n + 1 - i) ++ Builtin.zeroCells z.cells (G - (n + 1)) := ⟨_, rfl⟩
  have hGn : n + 1 ≤ G := by rw [hG]; exact grownCap_ge w _ _ _
  have hGm : G ≤ maxLen := by rw [hG]; exact grownCap_le_maxLen w (n + 1) c _ (by unfold maxLen; omega)
  have hG63 : G ≤ 9223372036854775807 := by have := hGm; unfold maxLen at this; omega
  have hrz : ∀ ty, (Builtin.append_ #[27, 3] ty #[.slice (some ⟨b, 0, none⟩) i c, .int .i64 ((n : Int) + 1 - (i : Int))]).run Try.prog w = .ok (.slice (some ⟨w.heap.size, 0, none⟩) (n + 1) G) (w.drew.alloc (.cells ROW 64)) := fun ty => by
    have h := Lib.run_append_grow_zeros w 27 3 ty 64 i0 z .i64 .i64 Try.underlying27 Try.underlying3 hi0 hz (some ⟨b, 0, none⟩) i c (cs.take (i * 12)) hold (n + 1 - i) (by omega) (by omega) (by omega) (by omega) (by rw [hzb]; omega) (by rw [hzb, show i + (n + 1 - i) = n + 1 by omega]; exact growslice_fits hroom (by omega))
    rw [show i + (n + 1 - i) = n + 1 by omega, ← hG, ← hROW, show ((n + 1 - i : Nat) : Int) = (n : Int) + 1 - (i : Int) by omega] at h
    exact h
  have hRs : ROW.size = G * 12 := by
    rw [hROW]
    simp only [Array.size_append, List.size_toArray, List.length_take, hcl, Builtin.zeroCells]
    simp [hzc]
    omega
  obtain ⟨W1, hW1⟩ : ∃ W1, W1 = w.drew.alloc (.cells ROW 64) := ⟨_, rfl⟩
  have hW1N : W1.heap[w.heap.size]? = some (.cells ROW 64 (0, 0)) := by rw [hW1]; simp [World.alloc, World.drew, -World.alloc_eq, -World.drew_eq]
  have hW1o : ∀ k, k < w.heap.size → W1.heap[k]? = w.heap[k]? := fun k hk => by rw [hW1]; simp [World.alloc, World.drew, -World.alloc_eq, -World.drew_eq]; rw [Array.getElem?_push, if_neg (Nat.ne_of_lt hk)]
  have hdl : (cs.drop (i * 12)).length = (n - i) * 12 := by rw [List.length_drop, hcl, Nat.sub_mul]
  have hRl : ROW.toList.length = G * 12 := by rw [Array.length_toList]; exact hRs
  have hG12 : (n + 1) * 12 ≤ G * 12 := Nat.mul_le_mul_right _ hGn
  obtain ⟨A1, hA1⟩ : ∃ A1 : Array Value, A1 = (ROW.toList.take (i * 12) ++ vs ++ ROW.toList.drop (i * 12 + vs.length)).toArray := ⟨_, rfl⟩
  have hA1s : A1.size = G * 12 := by
    rw [hA1]; simp only [List.size_toArray, List.length_append, List.length_take, List.length_drop, hRl, hvl]; omega
  obtain ⟨A2, hA2⟩ : ∃ A2 : Array Value, A2 = (A1.toList.take ((i + 1) * 12) ++ cs.drop (i * 12) ++ A1.toList.drop ((i + 1) * 12 + (cs.drop (i * 12)).length)).toArray := ⟨_, rfl⟩
  have hcpA : ∀ (W : World), W.heap = W1.heap → ∀ ty dc, (Builtin.copy_ #[27, 26] ty #[.slice (some ⟨w.heap.size, i * 12, none⟩) (n + 1 - i) dc, .slice (some ⟨vb, 0, none⟩) 1 vc]).run Try.prog W = .ok (goInt (1 : Nat)) (W.setRow w.heap.size A1) := fun W hW ty dc => by
    have hWv : W.heap[vb]? = some (.cells curV tv (0, 0)) := by rw [hW, hW1o vb hvw]; exact hv
    rw [hA1]
    exact run_copy_wide W _ _ ty 64 12 w.heap.size (i * 12) (n + 1 - i) dc ⟨vb, 0, none⟩ 1 vc 1 ROW _ vs Try.underlying27 frameSize (by simp only [Nat.min_def]; split <;> omega) (by rw [hW]; exact hW1N) (by omega)
      (fun j v hj => by
        rw [Addr.add_lit, Nat.zero_add]
        rw [← hvs, List.getElem?_take] at hj
        split at hj
        · simp [World.cell?, hWv]; simpa using hj
        · cases hj)
      (by rw [hRs, hvl]; omega) h1v
  have hcpB : ∀ (W : World), W.heap = (W1.setRow w.heap.size A1).heap → ∀ ty dc sc, (Builtin.copy_ #[27, 27] ty #[.slice (some ⟨w.heap.size, (i + 1) * 12, none⟩) (n - i) dc, .slice (some ⟨b, i * 12, none⟩) (n - i) sc]).run Try.prog W = .ok (goInt (n - i : Nat)) (W.setRow w.heap.size A2) := fun W hW ty dc sc => by
    have hWN : W.heap[w.heap.size]? = some (.cells A1 64 (0, 0)) := by rw [hW]; exact setRow_heap W1 w.heap.size _ _ _ _ hW1N
    have hWb : W.heap[b]? = some (.cells cur 64 (0, 0)) := by
      rw [hW, setRow_other W1 _ b _ (by omega), hW1o b hbw]; exact hb
    rw [hA2]
    exact run_copy_wide W _ _ ty 64 12 w.heap.size ((i + 1) * 12) (n - i) dc ⟨b, i * 12, none⟩ (n - i) sc (n - i) A1 _ (cs.drop (i * 12)) Try.underlying27 frameSize (by simp) hWN hdl
      (fun j v hj => by
        rw [Addr.add_lit]
        rw [List.getElem?_drop, ← hcs, List.getElem?_take] at hj
        split at hj
        · simp [World.cell?, hWb]; simpa using hj
        · cases hj)
      (by rw [hdl, hA1s]; omega) (fun v hv => h1c v (List.mem_of_mem_drop hv))
  refine (insGrowWalk b n c i vb vc G w.heap.size w W1 (W1.setRow w.heap.size A1) ((W1.setRow w.heap.size A1).drew.setRow w.heap.size A2) hi hnc hroom hGn hG63 hn9 (by rw [hW1]; exact hrz) (hcpA _ rfl) (hcpB _ rfl)).mono ?_
  rintro e w' ⟨rfl, rfl⟩
  have hAl : (A1.toList.take ((i + 1) * 12)).length = (i + 1) * 12 := by rw [List.length_take, Array.length_toList, hA1s]; omega
  have e1 : A1.toList = ROW.toList.take (i * 12) ++ vs ++ ROW.toList.drop (i * 12 + 12) := by rw [hA1, hvl]
  have e2 : A2.toList = A1.toList.take ((i + 1) * 12) ++ cs.drop (i * 12) ++ A1.toList.drop ((i + 1) * 12 + (n - i) * 12) := by rw [hA2, hdl]
  have hRt : ROW.toList.take (i * 12) = cs.take (i * 12) := by
    rw [hROW]
    simp only [Array.toList_append, List.append_assoc]
    rw [List.take_append_of_le_length (by rw [List.length_take, hcl]; omega), List.take_take]
    congr 1; omega
  have e3 : A1.toList.take ((i + 1) * 12) = cs.take (i * 12) ++ vs := by
    rw [e1, hRt]
    apply List.take_left'
    simp only [List.length_append, List.length_take, hvl, hcl]; omega
  have hA2s : A2.size = G * 12 := by
    rw [← Array.length_toList, e2]; simp only [List.length_append, List.length_take, List.length_drop, Array.length_toList, hA1s, hcl]; omega
  have hN : ((W1.setRow w.heap.size A1).drew.setRow w.heap.size A2).heap[w.heap.size]? = some (.cells A2 64 (0, 0)) := setRow_heap _ _ _ _ _ _ (setRow_heap W1 w.heap.size _ _ _ _ hW1N)
  refine ⟨_, rfl, ⟨by simp only [List.length_append, List.length_take, List.length_drop, hvl, hcl]; omega, .inr ⟨w.heap.size, G, A2, rfl, Nat.le_refl _, hN, hGn, hGm, hA2s, ?_⟩⟩, ?_⟩
  · rw [e2, e3]
    apply List.take_left'
    simp only [List.length_append, List.length_take, List.length_drop, hvl, hcl]; omega
  · refine ⟨?_, ?_, ?_, ?_, fun k hk => ?_⟩
    · rw [hW1]; rfl
    · rw [hW1]; rfl
    · rw [hW1]; rfl
    · rw [hW1]; simp [World.setRow, World.alloc, World.drew, -World.alloc_eq, -World.drew_eq]
    · rw [setRow_other _ _ k _ (by omega)]
      show (W1.setRow w.heap.size A1).heap[k]? = _
      rw [setRow_other _ _ k _ (by omega), hW1o k hk]
end Go.Proofs.Ytjkkallcgplgmaa

