/- Contracts of functions of the translated program, by the walk. -/
import Derived.Test.YtjkkallcgplgmaaT1
import Derived.Test.YtjkkallcgplgmaaLD
import Derived.Shelf.Spec.SlicesInsertGrow
import Derived.Laws.CopyRow
import Derived.WalkKit
set_option linter.unusedVariables false
set_option linter.unusedSimpArgs false
set_option maxRecDepth 8000
set_option maxHeartbeats 4000000
namespace Go.Proofs.Ytjkkallcgplgmaa
open Go Go.Sx
open Go.Proofs Go.Shelf Go.RowKit Go.Lib
theorem run_copy_wide {P : Program} (w : World) (dT sT ty elem : TypeId) (z : Nat) (g o dLen dCap : Nat) (a : Addr) (sLen sCap n : Nat) (cur : Array Value) (t : TypeId) (cs : List Value)
    (hu : P.underlying dT = some (.slice elem)) (hs : (P.info? elem).map (·.size) = some z) (hm : Nat.min sLen dLen = n)
    (hg : w.heap[g]? = some (.cells cur t (0, 0))) (hn : cs.length = n * z)
    (hsrc : ∀ j v, cs[j]? = some v → w.cell? (a.add j) = some v) (hfit : o + cs.length ≤ cur.size) (h1 : ∀ v ∈ cs, v.oneCell' = true) :
    (Builtin.copy_ #[dT, sT] ty #[.slice (some ⟨g, o, none⟩) dLen dCap, .slice (some a) sLen sCap]).run P w =
      .ok (goInt n) (w.setRow g (cur.toList.take o ++ cs ++ cur.toList.drop (o + cs.length)).toArray) := by
  have hl := run_loadCells_list (P := P) w a cs hsrc
  have hst := run_storeCells_at P g o t cs 0 cur w hg (by simpa using hfit) h1
  cases hq : P.info? elem with
  | none => simp [hq] at hs
  | some i =>
    have hi : i.size = z := by simpa [hq] using hs
    simp [Builtin.copy_, run_underlying hu, Builtin.lenOf, Builtin.firstCells, sizeOf, typeInfo, hq, hi, hm, ← hn, hl, hst]
theorem frameSize : (Try.prog.info? 64).map (·.size) = some 12 := by kernel_rfl
theorem run_size12 (w : World) : (Go.sizeOf 64).run Try.prog w = .ok 12 w := by
  obtain ⟨i, hi, hs⟩ := Option.map_eq_some_iff.1 frameSize
  simp [Go.sizeOf, typeInfo, hi, hs]
set_option maxHeartbeats 4000000 in
set_option maxRecDepth 100000 in
/-- slices.Insert of one page ahead of a page, where there is room: in place. -/
theorem insShift (b n c i vb vc : Nat) (cur : Array Value) (cs vs : List Value) (tv : TypeId) (curV : Array Value) (w : World) (hi : i < n) (hroom : n + 1 ≤ c) (hc63 : c ≤ 9223372036854775807) (hvb : vb ≠ b) (hn9 : n ≤ 1000000)
    (hb : w.heap[b]? = some (.cells cur 64 (0, 0))) (hv : w.heap[vb]? = some (.cells curV tv (0, 0))) (hsz : cur.size = c * 12)
    (hcl : cs.length = n * 12) (hvl : vs.length = 12) (hcs : cur.toList.take (n * 12) = cs) (hvs : curV.toList.take 12 = vs) (h1c : ∀ v ∈ cs, v.oneCell' = true) (h1v : ∀ v ∈ vs, v.oneCell' = true) :
    Calls Try.prog 96 #[.slice (some ⟨b, 0, none⟩) n c, .int .i64 i, .slice (some ⟨vb, 0, none⟩) 1 vc] w fun e w' =>
      e = .returned (.slice (some ⟨b, 0, none⟩) (n + 1) c) ∧ ∃ cur' q, w' = (w.drewN q).setRow b cur' ∧ cur'.size = c * 12 ∧ cur'.toList.take ((n + 1) * 12) = cs.take (i * 12) ++ vs ++ cs.drop (i * 12) := by
  have hz1 : ¬ ((i : Int) = (n : Int)) := by omega
  have hz2 : ¬ ((c : Int) < (n : Int) + 1) := by omega
  have hw1 : IntKind.i64.wrap ((n : Int) + 1) = (n : Int) + 1 := by rw [IntKind.wrap_i64]; omega
  have hw2 : IntKind.i64.wrap ((i : Int) + 1) = (i : Int) + 1 := by rw [IntKind.wrap_i64]; omega
  have hov : ∀ lb cb, (callFunc 118 #[.slice (some ⟨vb, 0, none⟩) 1 vc, .slice (some ⟨b, (i + 1) * 12, none⟩) lb cb]).run Try.prog w = .ok (.value (.bool false)) w := fun lb cb => by
    rw [run_callFunc_extern Try.func118 (by kernel_rfl) (by kernel_rfl) (by kernel_rfl) (e := Extern.SlicesOverlaps.overlaps #[26, 26] #[4]) (by kernel_rfl),
      Lib.run_overlaps_apart w 26 4 64 Try.underlying26 12 run_size12 ⟨vb, 0, none⟩ ⟨b, (i + 1) * 12, none⟩ 1 vc lb cb hvb tv 64 curV.size cur.size (by simp [World.shape?, hv]) (by simp [World.shape?, hb]) (by omega) (by simp [World.frozen?, hv]) (by simp [World.frozen?, hv])]
    rfl
  have mixed := mixed
  have hb1 : (0 : Int) ≤ (i : Int) + 1 := by omega
  have hb2 : ¬ (c = i + 1) := by omega
  have hb3 : (i : Int) ≤ (n : Int) + 1 := by omega
  have hb4 : ¬ (c = i) := by omega
  have hin : i ≤ n := by omega
  have hcurl : cur.toList.length = c * 12 := by rw [Array.length_toList]; exact hsz
  have hnc12 : (n + 1) * 12 ≤ c * 12 := Nat.mul_le_mul_right _ hroom
  have hin12 : (i + 1) * 12 ≤ n * 12 := Nat.mul_le_mul_right _ hi
  have hdl : (cs.drop (i * 12)).length = (n - i) * 12 := by rw [List.length_drop, hcl, Nat.sub_mul]
  have hcell : ∀ j v, cs[j]? = some v → w.cell? ⟨b, j, none⟩ = some v := fun j v hj => by
    rw [← hcs, List.getElem?_take] at hj
    split at hj
    · simp [World.cell?, hb]; simpa using hj
    · cases hj
  obtain ⟨C1, hC1⟩ : ∃ C1 : Array Value, C1 = (cur.toList.take ((i + 1) * 12) ++ cs.drop (i * 12) ++ cur.toList.drop ((i + 1) * 12 + (cs.drop (i * 12)).length)).toArray := ⟨_, rfl⟩
  have hC1s : C1.size = c * 12 := by
    rw [hC1]; simp only [List.size_toArray, List.length_append, List.length_take, List.length_drop, hcurl, hcl]; omega
  obtain ⟨C2, hC2⟩ : ∃ C2 : Array Value, C2 = (C1.toList.take (i * 12) ++ vs ++ C1.toList.drop (i * 12 + vs.length)).toArray := ⟨_, rfl⟩
  have hcp1 : ∀ ty dc sc, (Builtin.copy_ #[27, 27] ty #[.slice (some ⟨b, (i + 1) * 12, none⟩) (n - i) dc, .slice (some ⟨b, i * 12, none⟩) (n + 1 - i) sc]).run Try.prog w.drew = .ok (goInt (n - i : Nat)) (w.drew.setRow b C1) := fun ty dc sc => by
    rw [hC1]
    exact run_copy_wide w.drew _ _ ty 64 12 b ((i + 1) * 12) (n - i) dc ⟨b, i * 12, none⟩ (n + 1 - i) sc (n - i) cur _ (cs.drop (i * 12)) Try.underlying27 frameSize (by simp only [Nat.min_def]; split <;> omega) hb hdl
      (fun j v hj => by rw [Addr.add_lit]; exact hcell (i * 12 + j) v (by rwa [List.getElem?_drop] at hj))
      (by rw [hdl, hsz]; omega) (fun v hv => h1c v (List.mem_of_mem_drop hv))
  have hcp2 : ∀ (W : World), W.heap = (w.drew.setRow b C1).heap → ∀ ty dc, (Builtin.copy_ #[27, 26] ty #[.slice (some ⟨b, i * 12, none⟩) (n + 1 - i) dc, .slice (some ⟨vb, 0, none⟩) 1 vc]).run Try.prog W = .ok (goInt (1 : Nat)) (W.setRow b C2) := fun W hW ty dc => by
    have hWb : W.heap[b]? = some (.cells C1 64 (0, 0)) := by rw [hW]; exact setRow_heap w.drew b _ _ _ _ hb
    have hWv : W.heap[vb]? = some (.cells curV tv (0, 0)) := by
      rw [hW, show (w.drew.setRow b C1).heap[vb]? = w.heap[vb]? from setRow_other w.drew _ vb _ hvb]; exact hv
    rw [hC2]
    exact run_copy_wide W _ _ ty 64 12 b (i * 12) (n + 1 - i) dc ⟨vb, 0, none⟩ 1 vc 1 C1 _ vs Try.underlying27 frameSize (by simp only [Nat.min_def]; split <;> omega) hWb (by omega)
      (fun j v hj => by
        rw [Addr.add_lit, Nat.zero_add]
        rw [← hvs, List.getElem?_take] at hj
        split at hj
        · simp [World.cell?, hWv]; simpa using hj
        · cases hj)
      (by rw [hC1s, hvl]; omega) h1v
  go_enter Try.func96, Try.ntmps96
  go_wp2_with fail
  go_region_law_o (refine step_copy_runI rfl _ _ 27 27 rfl _ _ (by simp [Act.eval, Act.put]) (by simp [Act.eval, Act.put]) (hcp1 _ _ _) ?_)
  go_wp2_with (at_builtin; refine wpList_copy_runI _ rfl _ _ 27 26 rfl _ _ rfl rfl (hcp2 _ rfl _ _) ?_)
  go_ret
  have hAl : (cur.toList.take ((i + 1) * 12)).length = (i + 1) * 12 := by rw [List.length_take, hcurl]; omega
  have e1 : C1.toList = cur.toList.take ((i + 1) * 12) ++ (cs.drop (i * 12) ++ cur.toList.drop ((i + 1) * 12 + (n - i) * 12)) := by rw [hC1, hdl, ← List.append_assoc]
  have e2 : C2.toList = C1.toList.take (i * 12) ++ vs ++ C1.toList.drop (i * 12 + 12) := by rw [hC2, hvl]
  have e3 : C1.toList.take (i * 12) = cs.take (i * 12) := by
    rw [e1, List.take_append_of_le_length (by rw [hAl]; omega), List.take_take, ← hcs, List.take_take]
    congr 1; omega
  have e4 : C1.toList.drop (i * 12 + 12) = cs.drop (i * 12) ++ cur.toList.drop ((i + 1) * 12 + (n - i) * 12) := by
    rw [e1, show i * 12 + 12 = (cur.toList.take ((i + 1) * 12)).length by rw [hAl]; omega, List.drop_left]
  have hC2s : C2.size = c * 12 := by
    rw [← Array.length_toList, e2]; simp only [List.length_append, List.length_take, List.length_drop, Array.length_toList, hC1s, hvl]; omega
  refine ⟨rfl, C2, 1, ?_, hC2s, ?_⟩
  · rw [setRow_setRow]
    show _ = w.drew.setRow b C2
    congr 1
    apply Array.ext'
    rw [e2, e1]
    simp
  · rw [e2, e3, e4, ← List.append_assoc]
    apply List.take_left'
    simp only [List.length_append, List.length_take, hvl, hdl, hcl]
    omega
end Go.Proofs.Ytjkkallcgplgmaa

