/- Contracts of functions of the translated program, by the walk. -/
import Derived.Test.YtaekjojblkhfdaaF1
import Derived.Test.YtaekjojblkhfdaaSh1
set_option linter.unusedVariables false
set_option linter.unusedSimpArgs false
set_option maxRecDepth 8000
set_option maxHeartbeats 4000000
namespace Go.Proofs.Ytaekjojblkhfdaa
open Go Go.RowKit Go.Shelf Go.Proofs Go.Sx
theorem sortCal {H : List Blk} {i n : Nat} {c : Cap} {l : List Int} {ty : TypeId} (hb : H[i]? = some ⟨l.flatMap i64C, ty, .own 1⟩) (hn : n = l.length) (hl : l.length ≤ 1000000) :
    Cal Try.prog 35 [.s i 0 n c] H fun u H' => u = .t [] ∧ H' = H.set i ⟨(sortL l).flatMap i64C, ty, .own 1⟩ :=
  cal_sort (by kernel_rfl) hb hn hl fun blk off cap zs w hH hblk hsz => AnyM.slices_Sort_int sortLaid blk off cap zs w hH hblk hsz
theorem sortNil {H : List Blk} : Cal Try.prog 35 [.v (.slice none 0 0)] H fun u H' => u = .t [] ∧ H' = H :=
  cal_below (r := .t []) (by kernel_rfl) trivial fun σ w _ _ => (AnyM.slices_Sort_int_none sortLaid none 0 w).mono fun e w' ⟨he, hw⟩ => ⟨by rw [he]; simp [conc, concs], by rw [hw]; exact Below.refl _ _⟩
/-- The values of a slice, in the heap. -/
theorem ints_of_rd {H : List Blk} {σ : Nat → Go.Sx.Loc} {w : World} {v : V} {l : List Int} (hw : HRel σ H w) (h : Rd H v i64C l) : Ints w.heap.size w (conc σ v) l := by
  rcases h with ⟨rfl, rfl⟩ | ⟨i, off, c, b, rfl, hat, hf⟩
  · exact .inl ⟨rfl, rfl⟩
  · refine .inr ⟨(σ i).blk, (σ i).off + off, c.val (σ i).cap, rfl, hw.blk_lt hat.get hat.live, fun j hj => ?_⟩
    rw [Nat.add_assoc]
    refine (hw.holds i b hat.get).cell hat.live ?_
    have h1 := hat.i64 hj
    have hl2 := hat.len (by rw [flat_i64.flen]; omega)
    rw [flat_i64.flen, Nat.mul_one] at hl2
    rw [concs_get, ← Option.map_some]
    have h2 : b.cells[off + j]? = some (.v (.int .i64 l[j])) := by
      rw [List.getElem?_eq_getElem (by omega)]
      unfold Go.Sx.cel at h1
      rw [nth_eq, List.getElem?_eq_getElem (by omega)] at h1
      exact congrArg some h1
    rw [h2, List.getElem?_eq_getElem hj]; rfl
theorem collectAny {H : List Blk} {bi : Nat} {v : V} {l : List Int} (h : Rd H v i64C l) (hl : l.length ≤ 1000000) (hb : H[bi]? = some ⟨[v], 23, .fix⟩) (σ : Nat → Go.Sx.Loc) (w : World) (hw : HRel σ H w) :
    Calls Try.prog 40 (concs σ [.v (.slice none 0 0), .f 36 [.p bi 0]]).toArray w fun x w' => ∃ v, x = .returned v ∧ w'.ownsRow w.heap.size 2 1 v l.length (concs σ (l.flatMap i64C)) ∧ (v = .slice none 0 0 ↔ l = []) ∧ Below w.heap.size w w' := by
  rw [concs_i64]
  have hhb := hw.holds bi _ hb
  have hhc := hw.holds bi _ hb
  obtain ⟨h0, hg⟩ := (hhb : _ ∧ _)
  have hlt := hw.blk_lt hb rfl
  have hc : w.cell? ⟨(σ bi).blk, 0, none⟩ = some (conc σ v) := by
    have := hhc.cell rfl (j := 0) (u := conc σ v) (by simp [concs])
    rwa [h0] at this
  have e : (concs σ [.v (.slice none 0 0), .f 36 [.p bi 0]]).toArray = #[.slice none 0 0, .func (.func 36) #[] #[.pointer (some ⟨(σ bi).blk, 0, none⟩)]] := by simp [concs, conc, h0]
  rw [e]
  exact (callsIn_wide (n := 3)).1 (appendSeqIn 3 (by omega) (σ bi).blk (conc σ v) l hl w hlt hc (ints_of_rd hw h))
theorem appendSeqC {H : List Blk} {bi : Nat} {v : V} {l : List Int} (h : Rd H v i64C l) (hl : l.length ≤ 1000000) (hb : H[bi]? = some ⟨[v], 23, .fix⟩) (hne : l ≠ []) :
    Cal Try.prog 40 [.v (.slice none 0 0), .f 36 [.p bi 0]] H fun u H' => u = .s H.length 0 l.length (.u 0) ∧ H' = H ++ [⟨l.flatMap i64C, 2, .own 1⟩] :=
  cal_ownsRow (by kernel_rfl) (flat_i64.flen l) (by cases l with | nil => exact absurd rfl hne | cons a b => simp) (fun c hc => by obtain ⟨y, rfl, hy⟩ := flat_i64.mem hc; exact ⟨hy, hy⟩)
    fun σ w hw _ => (collectAny h hl hb σ w hw).mono fun x w' ⟨v, hx, hr, _, hbl⟩ => ⟨v, hx, hr, hbl⟩
theorem appendSeqNil {H : List Blk} {bi : Nat} {v : V} (h : Rd H v i64C []) (hb : H[bi]? = some ⟨[v], 23, .fix⟩) :
    Cal Try.prog 40 [.v (.slice none 0 0), .f 36 [.p bi 0]] H fun u H' => u = .v (.slice none 0 0) ∧ H' = H :=
  cal_below (by kernel_rfl) rfl fun σ w hw _ => (collectAny h (by simp) hb σ w hw).mono fun x w' ⟨v, hx, _, hn, hbl⟩ => ⟨by rw [hx, hn.2 rfl]; rfl, hbl⟩
/-- slices.Sorted of a slice's values. -/
theorem sortedC {H : List Blk} {bi : Nat} {v : V} {l : List Int} (h : Rd H v i64C l) (hl : l.length ≤ 1000000) (hb : H[bi]? = some ⟨[v], 23, .fix⟩) (hne : l ≠ []) :
    Cal Try.prog 28 [.f 36 [.p bi 0]] H fun u H' => u = .s H.length 0 l.length (.u 0) ∧ H' = H ++ [⟨(sortL l).flatMap i64C, 2, .own 1⟩] := by
  have hc : ∀ L, Cal Try.prog 34 [.f 36 [.p bi 0]] (H ++ L) fun u H' => u = .s (H ++ L).length 0 l.length (.u 0) ∧ H' = (H ++ L) ++ [⟨l.flatMap i64C, 2, .own 1⟩] := fun L => by
    have hb2 : (H ++ L)[bi]? = some ⟨[v], 23, .fix⟩ := get_app hb
    generalize hG : H ++ L = G at hb2
    have h2 : Rd G v i64C l := by rw [← hG]; exact h.app
    refine cal_fn 4 mixed Try.func34 Try.ntmps34 Try.results34 rfl rfl rfl fun hw cx hx hq => ?_
    repeat (first | (simp only [go_sem, Int.reduceLT, Int.reduceLE, Int.reduceEq, Int.reduceToNat]) | ((with_reducible refine And.intro ?_ ?_); omega) | ((with_reducible refine isSK ?_); first | (refine call_ret (appendSeqC h2 hl hb2 hne) (by simp only [go_sem, Int.reduceLT, Int.reduceLE, Int.reduceEq, Int.reduceToNat]) ?_)) | ((with_reducible refine isMC ?_); first | (refine mcall_ret (appendSeqC h2 hl hb2 hne) (by simp only [go_sem, Int.reduceLT, Int.reduceLE, Int.reduceEq, Int.reduceToNat]) (by simp only [go_sem, Int.reduceLT, Int.reduceLE, Int.reduceEq, Int.reduceToNat]) ?_)) | ((with_reducible refine And.intro ?_ ?_); first | (with_reducible rfl) | assumption | (simp only [go_sem]; done)))
    refine ret_at hq _ (.inl rfl) (by simp) ?_
    simp [go_sem]
  have hc0 := hc []
  rw [List.append_nil] at hc0
  refine cal_fn 8 mixed Try.func28 Try.ntmps28 Try.results28 rfl rfl rfl fun hw cx hx hq => ?_
  repeat (first | (simp only [go_sem, Int.reduceLT, Int.reduceLE, Int.reduceEq, Int.reduceToNat]) | ((with_reducible refine And.intro ?_ ?_); omega) | ((with_reducible refine isSK ?_); first | (refine call_ret (hc0) (by simp only [go_sem, Int.reduceLT, Int.reduceLE, Int.reduceEq, Int.reduceToNat]) ?_) | (refine call_ret (sortCal (l := l) (by first | exact (Go.Sx.get_at0 _ _).trans rfl | exact (Go.Sx.get_at _ _ 1).trans rfl | exact (Go.Sx.get_at _ _ 2).trans rfl | exact (Go.Sx.get_at _ _ 3).trans rfl | exact (Go.Sx.get_at _ _ 4).trans rfl | exact (Go.Sx.get_at _ _ 5).trans rfl | exact (Go.Sx.get_at _ _ 6).trans rfl | exact (Go.Sx.get_at _ _ 7).trans rfl | exact (Go.Sx.get_at _ _ 8).trans rfl | exact (Go.Sx.get_at _ _ 9).trans rfl | exact (Go.Sx.get_at _ _ 10).trans rfl | exact (Go.Sx.get_at _ _ 11).trans rfl) rfl hl) (by simp only [go_sem, Int.reduceLT, Int.reduceLE, Int.reduceEq, Int.reduceToNat]) ?_)) | ((with_reducible refine isMC ?_); first | (refine mcall_ret (hc0) (by simp only [go_sem, Int.reduceLT, Int.reduceLE, Int.reduceEq, Int.reduceToNat]) (by simp only [go_sem, Int.reduceLT, Int.reduceLE, Int.reduceEq, Int.reduceToNat]) ?_) | (refine mcall_ret (sortCal (l := l) (by first | exact (Go.Sx.get_at0 _ _).trans rfl | exact (Go.Sx.get_at _ _ 1).trans rfl | exact (Go.Sx.get_at _ _ 2).trans rfl | exact (Go.Sx.get_at _ _ 3).trans rfl | exact (Go.Sx.get_at _ _ 4).trans rfl | exact (Go.Sx.get_at _ _ 5).trans rfl | exact (Go.Sx.get_at _ _ 6).trans rfl | exact (Go.Sx.get_at _ _ 7).trans rfl | exact (Go.Sx.get_at _ _ 8).trans rfl | exact (Go.Sx.get_at _ _ 9).trans rfl | exact (Go.Sx.get_at _ _ 10).trans rfl | exact (Go.Sx.get_at _ _ 11).trans rfl) rfl hl) (by simp only [go_sem, Int.reduceLT, Int.reduceLE, Int.reduceEq, Int.reduceToNat]) (by simp only [go_sem, Int.reduceLT, Int.reduceLE, Int.reduceEq, Int.reduceToNat]) ?_)) | ((with_reducible refine And.intro ?_ ?_); first | (with_reducible rfl) | assumption | (simp only [go_sem]; done)))
  refine ret_at hq _ (.inl rfl) (by simp) ?_
  simp [go_sem]
theorem sortedNil {H : List Blk} {bi : Nat} {v : V} (h : Rd H v i64C []) (hb : H[bi]? = some ⟨[v], 23, .fix⟩) :
    Cal Try.prog 28 [.f 36 [.p bi 0]] H fun u H' => u = .v (.slice none 0 0) ∧ H' = H := by
  have hc : Cal Try.prog 34 [.f 36 [.p bi 0]] H fun u H' => u = .v (.slice none 0 0) ∧ H' = H := by
    refine cal_fn 4 mixed Try.func34 Try.ntmps34 Try.results34 rfl rfl rfl fun hw cx hx hq => ?_
    repeat (first | (simp only [go_sem, Int.reduceLT, Int.reduceLE, Int.reduceEq, Int.reduceToNat]) | ((with_reducible refine And.intro ?_ ?_); omega) | ((with_reducible refine isSK ?_); first | (refine call_ret (appendSeqNil h hb) (by simp only [go_sem, Int.reduceLT, Int.reduceLE, Int.reduceEq, Int.reduceToNat]) ?_)) | ((with_reducible refine isMC ?_); first | (refine mcall_ret (appendSeqNil h hb) (by simp only [go_sem, Int.reduceLT, Int.reduceLE, Int.reduceEq, Int.reduceToNat]) (by simp only [go_sem, Int.reduceLT, Int.reduceLE, Int.reduceEq, Int.reduceToNat]) ?_)) | ((with_reducible refine And.intro ?_ ?_); first | (with_reducible rfl) | assumption | (simp only [go_sem]; done)))
    refine ret_same hq _ (.inl rfl) ?_
    simp [go_sem]
  refine cal_fn 8 mixed Try.func28 Try.ntmps28 Try.results28 rfl rfl rfl fun hw cx hx hq => ?_
  repeat (first | (simp only [go_sem, Int.reduceLT, Int.reduceLE, Int.reduceEq, Int.reduceToNat]) | ((with_reducible refine And.intro ?_ ?_); omega) | ((with_reducible refine isSK ?_); first | (refine call_ret (hc) (by simp only [go_sem, Int.reduceLT, Int.reduceLE, Int.reduceEq, Int.reduceToNat]) ?_) | (refine call_ret (sortNil) (by simp only [go_sem, Int.reduceLT, Int.reduceLE, Int.reduceEq, Int.reduceToNat]) ?_)) | ((with_reducible refine isMC ?_); first | (refine mcall_ret (hc) (by simp only [go_sem, Int.reduceLT, Int.reduceLE, Int.reduceEq, Int.reduceToNat]) (by simp only [go_sem, Int.reduceLT, Int.reduceLE, Int.reduceEq, Int.reduceToNat]) ?_) | (refine mcall_ret (sortNil) (by simp only [go_sem, Int.reduceLT, Int.reduceLE, Int.reduceEq, Int.reduceToNat]) (by simp only [go_sem, Int.reduceLT, Int.reduceLE, Int.reduceEq, Int.reduceToNat]) ?_)) | ((with_reducible refine And.intro ?_ ?_); first | (with_reducible rfl) | assumption | (simp only [go_sem]; done)))
  refine ret_same hq _ (.inl rfl) ?_
  simp [go_sem]
theorem valuesC {H : List Blk} {v : V} (h : v.solid = true) :
    Cal Try.prog 29 [v] H fun u H' => u = .f 36 [.p H.length 0] ∧ H' = H ++ [⟨cellsL v, 23, .fix⟩] := by
  refine cal_fn 3 mixed Try.func29 Try.ntmps29 Try.results29 rfl rfl rfl fun hw cx hx hq => ?_
  repeat (first | (simp only [go_sem, Int.reduceLT, Int.reduceLE, Int.reduceEq, Int.reduceToNat, h]) | ((with_reducible refine And.intro ?_ ?_); omega) | ((with_reducible refine And.intro ?_ ?_); first | (with_reducible rfl) | assumption | (simp only [go_sem]; done)))
  refine ret_at hq _ (.inl rfl) (by simp) ?_
  simp [go_sem]
end Go.Proofs.Ytaekjojblkhfdaa

