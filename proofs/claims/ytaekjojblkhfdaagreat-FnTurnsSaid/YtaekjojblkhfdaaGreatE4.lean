/- Contracts of functions of the translated program, by the walk. -/
import Derived.Test.YtaekjojblkhfdaaGreatSh1
import Derived.Test.YtaekjojblkhfdaaGreatLD
import Derived.Test.YtaekjojblkhfdaaGreatC2
set_option linter.unusedVariables false
set_option linter.unusedSimpArgs false
set_option maxRecDepth 8000
set_option maxHeartbeats 16000000
namespace Go.Proofs.YtaekjojblkhfdaaGreat
open Go Go.RowKit Go.Shelf Go.Proofs Go.Sx
theorem sortCal {H : List Blk} {i n : Nat} {c : Cap} {l : List Int} {ty : TypeId} (hb : H[i]? = some ⟨l.flatMap i64C, ty, .own 1⟩) (hn : n = l.length) (hl : l.length ≤ 1000000) :
    Cal Tryz.prog 64 [.s i 0 n c] H fun u H' => u = .t [] ∧ H' = H.set i ⟨(sortL l).flatMap i64C, ty, .own 1⟩ :=
  cal_sort (by kernel_rfl) hb hn hl fun blk off cap zs w hH hblk hsz => AnyM.slices_Sort_int sortLaid blk off cap zs w hH hblk hsz
theorem sortNil {H : List Blk} : Cal Tryz.prog 64 [.v (.slice none 0 0)] H fun u H' => u = .t [] ∧ H' = H :=
  cal_below (r := .t []) (by kernel_rfl) trivial fun σ w _ _ => (AnyM.slices_Sort_int_none sortLaid none 0 w).mono fun e w' ⟨he, hw⟩ => ⟨by rw [he]; simp [conc, concs], by rw [hw]; exact Below.refl _ _⟩
/-- The values of a slice, in the heap. -/
theorem ints_of_rd {H : List Blk} {σ : Nat → Go.Sx.Loc} {w : World} {v : V} {l : List Int} (hw : HRel σ H w) (h : Rd H v i64C l) : Ints w.heap.size w (conc σ v) l := by
  rcases h with ⟨rfl, rfl⟩ | ⟨i, off, c, b, rfl, hat, hf⟩
  · exact .inl ⟨rfl, rfl⟩
  · refine .inr ⟨(σ i).blk, (σ i).off + off, c.val (σ i).cap, rfl, hw.blk_lt hat.get hat.live, fun j hj => ?_⟩
    rw [Nat.add_assoc]
    refine (hw.holds i b hat.get).cell hat.live ?_
    have h1 := hat.i64 hj
    have hl2 := hat.len (by rw [flat_i64.flen]; omega)
    rw [flat_i64.flen, Nat.mul_one] at hl2
    rw [concs_get, ← Option.map_some]
    have h2 : b.cells[off + j]? = some (.v (.int .i64 l[j])) := by
      rw [List.getElem?_eq_getElem (by omega)]
      unfold Go.Sx.cel at h1
      rw [nth_eq, List.getElem?_eq_getElem (by omega)] at h1
      exact congrArg some h1
    rw [h2, List.getElem?_eq_getElem hj]; rfl
theorem collectAny {H : List Blk} {bi : Nat} {v : V} {l : List Int} (h : Rd H v i64C l) (hl : l.length ≤ 1000000) (hb : H[bi]? = some ⟨[v], 27, .fix⟩) (σ : Nat → Go.Sx.Loc) (w : World) (hw : HRel σ H w) :
    Calls Tryz.prog 84 (concs σ [.v (.slice none 0 0), .f 65 [.p bi 0]]).toArray w fun x w' => ∃ v, x = .returned v ∧ w'.ownsRow w.heap.size 2 1 v l.length (concs σ (l.flatMap i64C)) ∧ (v = .slice none 0 0 ↔ l = []) ∧ Below w.heap.size w w' := by
  rw [concs_i64]
  have hhb := hw.holds bi _ hb
  have hhc := hw.holds bi _ hb
  obtain ⟨h0, hg⟩ := (hhb : _ ∧ _)
  have hlt := hw.blk_lt hb rfl
  have hc : w.cell? ⟨(σ bi).blk, 0, none⟩ = some (conc σ v) := by
    have := hhc.cell rfl (j := 0) (u := conc σ v) (by simp [concs])
    rwa [h0] at this
  have e : (concs σ [.v (.slice none 0 0), .f 65 [.p bi 0]]).toArray = #[.slice none 0 0, .func (.func 65) #[] #[.pointer (some ⟨(σ bi).blk, 0, none⟩)]] := by simp [concs, conc, h0]
  rw [e]
  exact (callsIn_wide (n := 3)).1 (appendSeqIn 3 (by omega) (σ bi).blk (conc σ v) l hl w hlt hc (ints_of_rd hw h))
theorem appendSeqC {H : List Blk} {bi : Nat} {v : V} {l : List Int} (h : Rd H v i64C l) (hl : l.length ≤ 1000000) (hb : H[bi]? = some ⟨[v], 27, .fix⟩) (hne : l ≠ []) :
    Cal Tryz.prog 84 [.v (.slice none 0 0), .f 65 [.p bi 0]] H fun u H' => u = .s H.length 0 l.length (.u 0) ∧ H' = H ++ [⟨l.flatMap i64C, 2, .own 1⟩] :=
  cal_ownsRow (by kernel_rfl) (flat_i64.flen l) (by cases l with | nil => exact absurd rfl hne | cons a b => simp) (fun c hc => by obtain ⟨y, rfl, hy⟩ := flat_i64.mem hc; exact ⟨hy, hy⟩)
    fun σ w hw _ => (collectAny h hl hb σ w hw).mono fun x w' ⟨v, hx, hr, _, hbl⟩ => ⟨v, hx, hr, hbl⟩
theorem appendSeqNil {H : List Blk} {bi : Nat} {v : V} (h : Rd H v i64C []) (hb : H[bi]? = some ⟨[v], 27, .fix⟩) :
    Cal Tryz.prog 84 [.v (.slice none 0 0), .f 65 [.p bi 0]] H fun u H' => u = .v (.slice none 0 0) ∧ H' = H :=
  cal_below (by kernel_rfl) rfl fun σ w hw _ => (collectAny h (by simp) hb σ w hw).mono fun x w' ⟨v, hx, _, hn, hbl⟩ => ⟨by rw [hx, hn.2 rfl]; rfl, hbl⟩
/-- slices.Sorted of a slice's values. -/
theorem sortedC {H : List Blk} {bi : Nat} {v : V} {l : List Int} (h : Rd H v i64C l) (hl : l.length ≤ 1000000) (hb : H[bi]? = some ⟨[v], 27, .fix⟩) (hne : l ≠ []) :
    Cal Tryz.prog 30 [.f 65 [.p bi 0]] H fun u H' => u = .s H.length 0 l.length (.u 0) ∧ H' = H ++ [⟨(sortL l).flatMap i64C, 2, .own 1⟩] := by
  have hc : ∀ L, Cal Tryz.prog 63 [.f 65 [.p bi 0]] (H ++ L) fun u H' => u = .s (H ++ L).length 0 l.length (.u 0) ∧ H' = (H ++ L) ++ [⟨l.flatMap i64C, 2, .own 1⟩] := fun L => by
    have hb2 : (H ++ L)[bi]? = some ⟨[v], 27, .fix⟩ := get_app hb
    generalize hG : H ++ L = G at hb2
    have h2 : Rd G v i64C l := by rw [← hG]; exact h.app
    refine cal_fn 4 mixed Tryz.func63 Tryz.ntmps63 Tryz.results63 rfl rfl rfl fun hw cx hx hq => ?_
    repeat (first | (simp only [go_sem, Int.reduceLT, Int.reduceLE, Int.reduceEq, Int.reduceToNat]) | ((with_reducible refine And.intro ?_ ?_); omega) | ((with_reducible refine isSK ?_); first | (refine call_ret (appendSeqC h2 hl hb2 hne) (by simp only [go_sem, Int.reduceLT, Int.reduceLE, Int.reduceEq, Int.reduceToNat]) ?_)) | ((with_reducible refine And.intro ?_ ?_); first | (with_reducible rfl) | assumption | (simp only [go_sem]; done)))
    refine ret_at hq _ (.inl rfl) (by simp) ?_
    simp [go_sem]
  have hc0 := hc []
  rw [List.append_nil] at hc0
  refine cal_fn 8 mixed Tryz.func30 Tryz.ntmps30 Tryz.results30 rfl rfl rfl fun hw cx hx hq => ?_
  repeat (first | (simp only [go_sem, Int.reduceLT, Int.reduceLE, Int.reduceEq, Int.reduceToNat]) | ((with_reducible refine And.intro ?_ ?_); omega) | ((with_reducible refine isSK ?_); first | (refine call_ret (hc0) (by simp only [go_sem, Int.reduceLT, Int.reduceLE, Int.reduceEq, Int.reduceToNat]) ?_) | (refine call_ret (sortCal (l := l) (by first | exact (Go.Sx.get_at0 _ _).trans rfl | exact (Go.Sx.get_at _ _ 1).trans rfl | exact (Go.Sx.get_at _ _ 2).trans rfl | exact (Go.Sx.get_at _ _ 3).trans rfl | exact (Go.Sx.get_at _ _ 4).trans rfl | exact (Go.Sx.get_at _ _ 5).trans rfl | exact (Go.Sx.get_at _ _ 6).trans rfl | exact (Go.Sx.get_at _ _ 7).trans rfl | exact (Go.Sx.get_at _ _ 8).trans rfl | exact (Go.Sx.get_at _ _ 9).trans rfl | exact (Go.Sx.get_at _ _ 10).trans rfl | exact (Go.Sx.get_at _ _ 11).trans rfl | exact (Go.Sx.get_at _ _ 12).trans rfl | exact (Go.Sx.get_at _ _ 13).trans rfl | exact (Go.Sx.get_at _ _ 14).trans rfl | exact (Go.Sx.get_at _ _ 15).trans rfl) rfl hl) (by simp only [go_sem, Int.reduceLT, Int.reduceLE, Int.reduceEq, Int.reduceToNat]) ?_)) | ((with_reducible refine And.intro ?_ ?_); first | (with_reducible rfl) | assumption | (simp only [go_sem]; done)))
  refine ret_at hq _ (.inl rfl) (by simp) ?_
  simp [go_sem]
theorem sortedNil {H : List Blk} {bi : Nat} {v : V} (h : Rd H v i64C []) (hb : H[bi]? = some ⟨[v], 27, .fix⟩) :
    Cal Tryz.prog 30 [.f 65 [.p bi 0]] H fun u H' => u = .v (.slice none 0 0) ∧ H' = H := by
  have hc : Cal Tryz.prog 63 [.f 65 [.p bi 0]] H fun u H' => u = .v (.slice none 0 0) ∧ H' = H := by
    refine cal_fn 4 mixed Tryz.func63 Tryz.ntmps63 Tryz.results63 rfl rfl rfl fun hw cx hx hq => ?_
    repeat (first | (simp only [go_sem, Int.reduceLT, Int.reduceLE, Int.reduceEq, Int.reduceToNat]) | ((with_reducible refine And.intro ?_ ?_); omega) | ((with_reducible refine isSK ?_); first | (refine call_ret (appendSeqNil h hb) (by simp only [go_sem, Int.reduceLT, Int.reduceLE, Int.reduceEq, Int.reduceToNat]) ?_)) | ((with_reducible refine And.intro ?_ ?_); first | (with_reducible rfl) | assumption | (simp only [go_sem]; done)))
    refine ret_same hq _ (.inl rfl) ?_
    simp [go_sem]
  refine cal_fn 8 mixed Tryz.func30 Tryz.ntmps30 Tryz.results30 rfl rfl rfl fun hw cx hx hq => ?_
  repeat (first | (simp only [go_sem, Int.reduceLT, Int.reduceLE, Int.reduceEq, Int.reduceToNat]) | ((with_reducible refine And.intro ?_ ?_); omega) | ((with_reducible refine isSK ?_); first | (refine call_ret (hc) (by simp only [go_sem, Int.reduceLT, Int.reduceLE, Int.reduceEq, Int.reduceToNat]) ?_) | (refine call_ret (sortNil) (by simp only [go_sem, Int.reduceLT, Int.reduceLE, Int.reduceEq, Int.reduceToNat]) ?_)) | ((with_reducible refine And.intro ?_ ?_); first | (with_reducible rfl) | assumption | (simp only [go_sem]; done)))
  refine ret_same hq _ (.inl rfl) ?_
  simp [go_sem]
theorem valuesC {H : List Blk} {v : V} (h : v.solid = true) :
    Cal Tryz.prog 31 [v] H fun u H' => u = .f 65 [.p H.length 0] ∧ H' = H ++ [⟨cellsL v, 27, .fix⟩] := by
  refine cal_fn 3 mixed Tryz.func31 Tryz.ntmps31 Tryz.results31 rfl rfl rfl fun hw cx hx hq => ?_
  repeat (first | (simp only [go_sem, Int.reduceLT, Int.reduceLE, Int.reduceEq, Int.reduceToNat, h]) | ((with_reducible refine And.intro ?_ ?_); omega) | ((with_reducible refine And.intro ?_ ?_); first | (with_reducible rfl) | assumption | (simp only [go_sem]; done)))
  refine ret_at hq _ (.inl rfl) (by simp) ?_
  simp [go_sem]
end Go.Proofs.YtaekjojblkhfdaaGreat
namespace Go.Proofs.YtaekjojblkhfdaaGreat
open Go Go.Sx
theorem rdTake {α : Type} {H : List Blk} {i off n : Nat} {c c' : Cap} {b : Blk} {enc : α → List V} {z : Nat} (hz : ∀ x, (enc x).length = z) {l : List α} (h : At H i off (l.flatMap enc) b) (hf : off + (l.flatMap enc).length ≤ b.cells.length) (hn : n ≤ l.length) : Rd H (.s i off n c') enc (l.take n) := by
  have e : l.flatMap enc = (l.take n).flatMap enc ++ (l.drop n).flatMap enc := by rw [← List.flatMap_append, List.take_append_drop]
  have hl : (l.take n).length = n := by rw [List.length_take]; omega
  refine .inr ⟨i, off, c', b, by rw [hl], ?_, ?_⟩
  · rw [e] at h; exact h.left
  · rw [e, List.length_append] at hf; omega
theorem isOrderOf {H : List Blk} {v : V} {o : List Int} {n : Nat} (h : Rd H v i64C o) (hl : o.length ≤ 1000000) (hn : n ≤ 1000000) :
    Cal Tryz.prog 62 [v, .v (.int .i64 n)] H fun u H' => u = .v (.bool (isOrd o n)) ∧ H' = H := by
  have hsol := h.solid
  have hL := h.lenV (P := Tryz.prog) slTy27
  have hvl : V.lt H.length v = True := h.vlt (Nat.le_refl _)
  have hcl : cellsL v = [v] := by
    rcases h with ⟨rfl, _⟩ | ⟨i, off, c, b, rfl, _⟩ <;> rfl
  by_cases hne : o = []
  · have hN : isOrd o n = decide (o.length = n) := isOrd_len (by rw [hne]; exact ⟨rfl, (fun k hk => by cases hk), List.nodup_nil⟩)
    have he := h; rw [hne] at he
    have hL0 := he.lenV (P := Tryz.prog) slTy27
    refine cal_fn 24 mixed Tryz.func62 Tryz.ntmps62 Tryz.results62 rfl rfl rfl fun hw cx hx hq => ?_
    repeat (first | (simp only [go_sem, Int.reduceLT, Int.reduceLE, Int.reduceEq, Int.reduceToNat, hsol, hL, hcl]) | ((with_reducible refine And.intro ?_ ?_); omega) | ((with_reducible refine isSK ?_); first | (refine call_ret (valuesC hsol) (by simp only [go_sem, Int.reduceLT, Int.reduceLE, Int.reduceEq, Int.reduceToNat, hsol, hL, hcl]) ?_) | (refine call_ret (sortedNil (he.app) (by first | exact (Go.Sx.get_at0 _ _).trans rfl | exact (Go.Sx.get_at _ _ 1).trans rfl | exact (Go.Sx.get_at _ _ 2).trans rfl | exact (Go.Sx.get_at _ _ 3).trans rfl | exact (Go.Sx.get_at _ _ 4).trans rfl | exact (Go.Sx.get_at _ _ 5).trans rfl | exact (Go.Sx.get_at _ _ 6).trans rfl | exact (Go.Sx.get_at _ _ 7).trans rfl | exact (Go.Sx.get_at _ _ 8).trans rfl | exact (Go.Sx.get_at _ _ 9).trans rfl | exact (Go.Sx.get_at _ _ 10).trans rfl | exact (Go.Sx.get_at _ _ 11).trans rfl | exact (Go.Sx.get_at _ _ 12).trans rfl | exact (Go.Sx.get_at _ _ 13).trans rfl | exact (Go.Sx.get_at _ _ 14).trans rfl | exact (Go.Sx.get_at _ _ 15).trans rfl)) (by simp only [go_sem, Int.reduceLT, Int.reduceLE, Int.reduceEq, Int.reduceToNat, hsol, hL, hcl]) ?_)) | ((with_reducible refine And.intro ?_ ?_); first | (with_reducible rfl) | assumption | (simp only [go_sem]; done)))
    refine WK_for (fun i : Nat => ⟨[v, .v (.int .i64 n), .any, .any, .any, .any, .any, .any, .any, .any, .any, .v (.slice none 0 0), .v (.int .i64 (0 : Nat)), .v (.int .i64 i)] ++ junk 12, H ++ [⟨[v], 27, .fix⟩]⟩) (fun i => i = 0) (fun i => i) 0 (Weak.slots ?_) ?_ fun i hi => ?_
    · simp [go_sem]
    · simp
    have hc3 : ¬ ((i : Int) < ((0 : Nat) : Int)) := by omega
    repeat (first | (simp only [go_sem, Int.reduceLT, Int.reduceLE, Int.reduceEq, Int.reduceToNat, hL, hc3]) | ((with_reducible refine And.intro ?_ ?_); omega) | ((with_reducible refine And.intro ?_ ?_); first | (with_reducible rfl) | assumption | (simp only [go_sem]; done)))
    refine ret_cut hq hw _ (.inl rfl) ?_
    simp [go_sem, hN] <;> omega
  refine cal_fn 24 mixed Tryz.func62 Tryz.ntmps62 Tryz.results62 rfl rfl rfl fun hw cx hx hq => ?_
  repeat (first | (simp only [go_sem, Int.reduceLT, Int.reduceLE, Int.reduceEq, Int.reduceToNat, hsol, hL, hcl]) | ((with_reducible refine And.intro ?_ ?_); omega) | ((with_reducible refine isSK ?_); first | (refine call_ret (valuesC hsol) (by simp only [go_sem, Int.reduceLT, Int.reduceLE, Int.reduceEq, Int.reduceToNat, hsol, hL, hcl]) ?_) | (refine call_ret (sortedC (l := o) (h.app) hl (by first | exact (Go.Sx.get_at0 _ _).trans rfl | exact (Go.Sx.get_at _ _ 1).trans rfl | exact (Go.Sx.get_at _ _ 2).trans rfl | exact (Go.Sx.get_at _ _ 3).trans rfl | exact (Go.Sx.get_at _ _ 4).trans rfl | exact (Go.Sx.get_at _ _ 5).trans rfl | exact (Go.Sx.get_at _ _ 6).trans rfl | exact (Go.Sx.get_at _ _ 7).trans rfl | exact (Go.Sx.get_at _ _ 8).trans rfl | exact (Go.Sx.get_at _ _ 9).trans rfl | exact (Go.Sx.get_at _ _ 10).trans rfl | exact (Go.Sx.get_at _ _ 11).trans rfl | exact (Go.Sx.get_at _ _ 12).trans rfl | exact (Go.Sx.get_at _ _ 13).trans rfl | exact (Go.Sx.get_at _ _ 14).trans rfl | exact (Go.Sx.get_at _ _ 15).trans rfl) hne) (by simp only [go_sem, Int.reduceLT, Int.reduceLE, Int.reduceEq, Int.reduceToNat, hsol, hL, hcl]) ?_)) | ((with_reducible refine And.intro ?_ ?_); first | (with_reducible rfl) | assumption | (simp only [go_sem]; done)))
  have hsl := sortL_len o
  refine WK_for (fun i : Nat => ⟨[v, .v (.int .i64 n), .any, .any, .any, .any, .any, .any, .any, .any, .any, .s (H.length + 1) 0 o.length (.u 0), .v (.int .i64 o.length), .v (.int .i64 i)] ++ junk 12, H ++ [⟨[v], 27, .fix⟩, ⟨(sortL o).flatMap i64C, 2, .own 1⟩]⟩) (fun i => i ≤ o.length ∧ ∀ j (hj : j < (sortL o).length), j < i → (sortL o)[j] = (j : Int)) (fun i => o.length - i) 0 (Weak.slots ?_) ?_ fun i hi => ?_
  · simp [go_sem]
  · simp
  rcases Int.lt_or_le (i : Int) o.length with hc | hc
  · have hj : i < (sortL o).length := by omega
    have hfl : ((sortL o).flatMap i64C).length = o.length := by rw [flat_i64.flen, Nat.mul_one, hsl]
    have hcel := (At.mk0 (H := []) (L := []) (cs := (sortL o).flatMap i64C) (t := 0) (k := .own 1) rfl).i64 hj
    simp only [Nat.zero_add] at hcel
    by_cases e : (sortL o)[i] = (i : Int)
    · have e1 : ((sortL o)[i] = (i : Int)) = True := eq_true e
      repeat (first | (simp only [go_sem, Int.reduceLT, Int.reduceLE, Int.reduceEq, Int.reduceToNat, hc, hcel, hfl, e1]) | ((with_reducible refine And.intro ?_ ?_); omega) | ((with_reducible refine And.intro ?_ ?_); first | (with_reducible rfl) | assumption | (simp only [go_sem]; done)))
      refine EK_again (i + 1) (Weak.slots (by simp [go_sem])) ⟨by omega, fun j hj2 hj3 => ?_⟩ (by omega)
      by_cases e3 : j = i
      · subst e3; exact e
      · exact hi.2 j hj2 (by omega)
    · have e1 : ((sortL o)[i] = (i : Int)) = False := eq_false e
      have hr : isOrd o n = false := isOrd_false fun h2 => e (sortL_ord h2 i hj)
      repeat (first | (simp only [go_sem, Int.reduceLT, Int.reduceLE, Int.reduceEq, Int.reduceToNat, hc, hcel, hfl, e1]) | ((with_reducible refine And.intro ?_ ?_); omega) | ((with_reducible refine And.intro ?_ ?_); first | (with_reducible rfl) | assumption | (simp only [go_sem]; done)))
      refine ret_cut hq hw _ (.inl rfl) ?_
      simp [go_sem, hr]
  · have hr : isOrd o n = decide (o.length = n) := isOrd_len (ord_of_sortL fun j hj => hi.2 j hj (by omega))
    repeat (first | (simp only [go_sem, Int.reduceLT, Int.reduceLE, Int.reduceEq, Int.reduceToNat, hL, Int.not_lt.2 hc]) | ((with_reducible refine And.intro ?_ ?_); omega) | ((with_reducible refine And.intro ?_ ?_); first | (with_reducible rfl) | assumption | (simp only [go_sem]; done)))
    refine ret_cut hq hw _ (.inl rfl) ?_
    simp [go_sem, hr] <;> omega
/-- The code for a book and an order. -/
def orC (l : List (Nat → Int)) (o : List Int) : Int := if okB l = true then (if isOrd o l.length = true then 0 else 4) else 1
theorem orC_ok {l : List (Nat → Int)} {o : List Int} (h : orC l o = 0) : okB l = true ∧ OrdP o l.length := by
  unfold orC at h
  split at h
  · rename_i e
    split at h
    · rename_i e2; exact ⟨e, isOrd_iff.1 e2⟩
    · cases h
  · cases h
theorem orC_okI {l : List (Nat → Int)} {o : List Int} (h : orC l o = 0) : okI l o := fun k hk => (orC_ok h).2.2.1 k hk
theorem checkOrder {H : List Blk} {v w : V} {l : List (Nat → Int)} {o : List Int} (h : Rd H v (rowL .u16 12) l) (h2 : Rd H w i64C o) (hl : l.length ≤ 1000000) (hlo : o.length ≤ 1000000) :
    Cal Tryz.prog 29 [v, w] H fun u H' => u = .v (.int .i64 (orC l o)) ∧ H' = H := by
  have hsol := h.solid
  have hsol2 := h2.solid
  have hL := h.lenV (P := Tryz.prog) slTy25
  refine cal_fn 13 mixed Tryz.func29 Tryz.ntmps29 Tryz.results29 rfl rfl rfl fun hw cx hx hq => ?_
  by_cases e : okB l = true
  · cases e2 : isOrd o l.length
    · have hC : orC l o = 4 := by unfold orC; rw [if_pos e, if_neg (by rw [e2]; simp)]
      repeat (first | (simp only [go_sem, Int.reduceLT, Int.reduceLE, Int.reduceEq, Int.reduceToNat, hsol, hsol2, e, e2, hL]) | ((with_reducible refine And.intro ?_ ?_); omega) | ((with_reducible refine isSK ?_); first | (refine call_ret (validBook h (by omega)) (by simp only [go_sem, Int.reduceLT, Int.reduceLE, Int.reduceEq, Int.reduceToNat, hsol, hsol2, e, e2, hL]) ?_) | (refine call_ret (isOrderOf h2 hlo hl) (by simp only [go_sem, Int.reduceLT, Int.reduceLE, Int.reduceEq, Int.reduceToNat, hsol, hsol2, e, e2, hL]) ?_)) | ((with_reducible refine And.intro ?_ ?_); first | (with_reducible rfl) | assumption | (simp only [go_sem]; done)))
      refine ret_same hq _ (.inl rfl) ?_
      simp [go_sem, hC]
    · have hC : orC l o = 0 := by unfold orC; rw [if_pos e, if_pos e2]
      repeat (first | (simp only [go_sem, Int.reduceLT, Int.reduceLE, Int.reduceEq, Int.reduceToNat, hsol, hsol2, e, e2, hL]) | ((with_reducible refine And.intro ?_ ?_); omega) | ((with_reducible refine isSK ?_); first | (refine call_ret (validBook h (by omega)) (by simp only [go_sem, Int.reduceLT, Int.reduceLE, Int.reduceEq, Int.reduceToNat, hsol, hsol2, e, e2, hL]) ?_) | (refine call_ret (isOrderOf h2 hlo hl) (by simp only [go_sem, Int.reduceLT, Int.reduceLE, Int.reduceEq, Int.reduceToNat, hsol, hsol2, e, e2, hL]) ?_)) | ((with_reducible refine And.intro ?_ ?_); first | (with_reducible rfl) | assumption | (simp only [go_sem]; done)))
      refine ret_same hq _ (.inl rfl) ?_
      simp [go_sem, hC]
  · have hC : orC l o = 1 := by unfold orC; rw [if_neg e]
    rw [Bool.not_eq_true] at e
    repeat (first | (simp only [go_sem, Int.reduceLT, Int.reduceLE, Int.reduceEq, Int.reduceToNat, hsol, e]) | ((with_reducible refine And.intro ?_ ?_); omega) | ((with_reducible refine isSK ?_); first | (refine call_ret (validBook h (by omega)) (by simp only [go_sem, Int.reduceLT, Int.reduceLE, Int.reduceEq, Int.reduceToNat, hsol, e]) ?_)) | ((with_reducible refine And.intro ?_ ?_); first | (with_reducible rfl) | assumption | (simp only [go_sem]; done)))
    refine ret_same hq _ (.inl rfl) ?_
    simp [go_sem, hC]
end Go.Proofs.YtaekjojblkhfdaaGreat
namespace Go.Proofs.YtaekjojblkhfdaaGreat
open Go Go.Sx

theorem implReorderBook_ok {H : List Blk} {v w : V} {l : List (Nat → Int)} {o : List Int} (h : Rd H v (rowL .u16 12) l) (h2 : Rd H w i64C o) (hl : l.length ≤ 1000000) (hlo : o.length ≤ 1000000) (hc : orC l o = 0) :
    Cal Tryz.prog 10 [v, w] H fun u H' => u = .t [.s H.length 0 (inO l o).length (.u 0), .v (.int .i64 0)] ∧ H' = H ++ [⟨(inO l o).flatMap (rowL .u16 12), 63, .own 12⟩] := by
  have hsol := h.solid
  have hsol2 := h2.solid
  have hne : (orC l o = 0) = True := eq_true hc
  refine cal_fn 14 mixed Tryz.func10 Tryz.ntmps10 Tryz.results10 rfl rfl rfl fun hw cx hx hq => ?_
  repeat (first | (simp only [go_sem, Int.reduceLT, Int.reduceLE, Int.reduceEq, Int.reduceToNat, hsol, hsol2, hne]) | ((with_reducible refine And.intro ?_ ?_); omega) | ((with_reducible refine isSK ?_); first | (refine call_ret (checkOrder h h2 hl hlo) (by simp only [go_sem, Int.reduceLT, Int.reduceLE, Int.reduceEq, Int.reduceToNat, hsol, hsol2, hne]) ?_) | (refine call_ret (inOrder (l := l) (o := o) h h2 (orC_okI hc) hlo) (by simp only [go_sem, Int.reduceLT, Int.reduceLE, Int.reduceEq, Int.reduceToNat, hsol, hsol2, hne]) ?_)) | ((with_reducible refine And.intro ?_ ?_); first | (with_reducible rfl) | assumption | (simp only [go_sem]; done)))
  refine ret_at hq _ (.inl rfl) (by simp) ?_
  simp [go_sem, hc]
end Go.Proofs.YtaekjojblkhfdaaGreat
namespace Go.Proofs.YtaekjojblkhfdaaGreat
open Go Go.Sx

theorem reverseI {H : List Blk} {bi a n : Nat} {c : Cap} {L : List (Int)} {ty : TypeId} {kd : BK} (hb : H[bi]? = some ⟨L.flatMap i64C, ty, kd⟩) (hk : kd.mut = true) (hn : a + n ≤ L.length) (hl : L.length ≤ 1000000) :
    Cal Tryz.prog 33 [.s bi (a) n c] H fun u H' => u = .t [] ∧ H' = H.set bi ⟨(revW L a n (n / 2)).flatMap i64C, ty, kd⟩ := by
  have hlt := (List.getElem?_eq_some_iff.1 hb).1
  have hgs : ∀ b : Blk, (H.set bi b)[bi]? = some b := fun b => List.getElem?_set_self hlt
  have hlive : kd.live = true := by cases kd <;> first | rfl | cases hk
  refine cal_fn 27 mixed Tryz.func33 Tryz.ntmps33 Tryz.results33 rfl rfl rfl fun hw cx hx hq => ?_
  repeat (first | (simp only [go_sem, Int.reduceLT, Int.reduceLE, Int.reduceEq, Int.reduceToNat]) | ((with_reducible refine And.intro ?_ ?_); omega) | ((with_reducible refine isWKr (id := 3) ?_); refine WK_drawAt 3 [[],[],[],[],[],[],[4,5],[4,5,6],[],[],[8,9],[8,9,10],[0,1,4,5,6,7,8,9,10,11],[0,1,4,5,6,7,8,9,10,11,12],[0,1,2,3,4,5,6,7,8,9,10,11,12,13],[0,1,2,3,4,5,6,7,8,9,10,11,12,13,14]] (by kernel_rfl) ?_) | ((with_reducible refine And.intro ?_ ?_); first | (with_reducible rfl) | assumption | (simp only [go_sem]; done)))
  refine WK_for (fun m : Nat => ⟨[.s bi (a) n c, .any, .v (.int .i64 m), .v (.int .i64 ((n : Int) - 1 - m))] ++ junk 24, H.set bi ⟨(revW L a n m).flatMap i64C, ty, kd⟩⟩) (fun m => m ≤ n / 2) (fun m => n / 2 - m) 0 ?_ (Nat.zero_le _) fun m hm => ?_
  · rw [show revW L a n 0 = L from rfl, set_get hb]; exact Weak.slots (by simp [go_sem])
  have hML := revW_len L a n m
  rcases Int.lt_or_le (m : Int) ((n : Int) - 1 - m) with hc | hc
  · have g1 : a + n - 1 - m < (revW L a n m).length := by omega
    have g2 : a + m < (revW L a n m).length := by omega
    have t1 : ((n : Int) - 1 - m).toNat = n - 1 - m := by omega
    have hfl : ((revW L a n m).flatMap i64C).length = L.length * 1 := by rw [flat_len i64C 1 (fun _ => rfl), hML]
    have f1 : cel ((revW L a n m).flatMap i64C) (a + (n - 1 - m)) = .v (.int .i64 ((revW L a n m).getD (a + n - 1 - m) default)) := by
      have := (At.mk0 (H := []) (L := []) (cs := (revW L a n m).flatMap i64C) (t := 0) (k := .own 1) rfl).i64 (show a + n - 1 - m < (revW L a n m).length from g1)
      rw [getD_at _ (g1), ← this]; congr 1; omega
    have f2 : cel ((revW L a n m).flatMap i64C) (a + (m)) = .v (.int .i64 ((revW L a n m).getD (a + m) default)) := by
      have := (At.mk0 (H := []) (L := []) (cs := (revW L a n m).flatMap i64C) (t := 0) (k := .own 1) rfl).i64 (show a + m < (revW L a n m).length from g2)
      rw [getD_at _ (g2), ← this]; congr 1; omega
    have hs : revW L a n (m + 1) = swapL (revW L a n m) (a + m) (a + n - 1 - m) := rfl
    unfold swapL at hs
    generalize (revW L a n m).getD (a + n - 1 - m) default = x1 at f1 hs
    generalize (revW L a n m).getD (a + m) default = x2 at f2 hs
    have w1 : wr ((revW L a n m).flatMap i64C) (a + (m)) [.v (.int .i64 (x1))] = ((revW L a n m).set (a + m) (x1)).flatMap i64C := by
      rw [← flat_set i64C 1 (fun _ => rfl) _ _ x1 g2]; rw [Nat.mul_one]; rfl
    have w2 : wr (((revW L a n m).set (a + m) x1).flatMap i64C) (a + (n - 1 - m)) [.v (.int .i64 (x2))] = (((revW L a n m).set (a + m) x1).set (a + n - 1 - m) (x2)).flatMap i64C := by
      rw [← flat_set i64C 1 (fun _ => rfl) _ _ x2 (by rw [List.length_set]; exact g1)]; rw [Nat.mul_one, show a + (n - 1 - m) = a + n - 1 - m by omega]; rfl
    have hfl2 : (((revW L a n m).set (a + m) x1).flatMap i64C).length = L.length * 1 := by rw [flat_len i64C 1 (fun _ => rfl), List.length_set, hML]
    repeat (first | (simp only [go_sem, Int.reduceLT, Int.reduceLE, Int.reduceEq, Int.reduceToNat, hc, hgs, hk, hlive, t1, f1, f2, w1, w2, hfl, hfl2, List.set_set, Nat.mul_one]) | ((with_reducible refine And.intro ?_ ?_); omega) | ((with_reducible refine isWKr (id := 3) ?_); refine WK_drawAt 3 [[],[],[],[],[],[],[4,5],[4,5,6],[],[],[8,9],[8,9,10],[0,1,4,5,6,7,8,9,10,11],[0,1,4,5,6,7,8,9,10,11,12],[0,1,2,3,4,5,6,7,8,9,10,11,12,13],[0,1,2,3,4,5,6,7,8,9,10,11,12,13,14]] (by kernel_rfl) ?_) | ((with_reducible refine And.intro ?_ ?_); first | (with_reducible rfl) | assumption | (simp only [go_sem]; done)))
    refine EK_again (m + 1) ?_ (by omega) (by omega)
    rw [hs]
    exact Weak.slots (by simp [go_sem] <;> omega)
  · have : m = n / 2 := by omega
    subst this
    repeat (first | (simp only [go_sem, Int.reduceLT, Int.reduceLE, Int.reduceEq, Int.reduceToNat, Int.not_lt.2 hc]) | ((with_reducible refine And.intro ?_ ?_); omega) | ((with_reducible refine isWKr (id := 3) ?_); refine WK_drawAt 3 [[],[],[],[],[],[],[4,5],[4,5,6],[],[],[8,9],[8,9,10],[0,1,4,5,6,7,8,9,10,11],[0,1,4,5,6,7,8,9,10,11,12],[0,1,2,3,4,5,6,7,8,9,10,11,12,13],[0,1,2,3,4,5,6,7,8,9,10,11,12,13,14]] (by kernel_rfl) ?_) | ((with_reducible refine And.intro ?_ ?_); first | (with_reducible rfl) | assumption | (simp only [go_sem]; done)))
    refine ret_at hq _ (.inr rfl) (by simp) ?_
    simp [go_sem]


theorem reverseB {H : List Blk} {bi a n : Nat} {c : Cap} {L : List (Nat → Int)} {ty : TypeId} {kd : BK} (hb : H[bi]? = some ⟨L.flatMap (rowL .u16 12), ty, kd⟩) (hk : kd.mut = true) (hn : a + n ≤ L.length) (hl : L.length ≤ 1000000) :
    Cal Tryz.prog 40 [.s bi (a * 12) n c] H fun u H' => u = .t [] ∧ H' = H.set bi ⟨(revW L a n (n / 2)).flatMap (rowL .u16 12), ty, kd⟩ := by
  have hlt := (List.getElem?_eq_some_iff.1 hb).1
  have hgs : ∀ b : Blk, (H.set bi b)[bi]? = some b := fun b => List.getElem?_set_self hlt
  have hlive : kd.live = true := by cases kd <;> first | rfl | cases hk
  refine cal_fn 27 mixed Tryz.func40 Tryz.ntmps40 Tryz.results40 rfl rfl rfl fun hw cx hx hq => ?_
  repeat (first | (simp only [go_sem, Int.reduceLT, Int.reduceLE, Int.reduceEq, Int.reduceToNat]) | ((with_reducible refine And.intro ?_ ?_); omega) | ((with_reducible refine isWKr (id := 3) ?_); refine WK_drawAt 3 [[],[],[],[],[],[],[4,5],[4,5,6],[],[],[8,9],[8,9,10],[0,1,4,5,6,7,8,9,10,11],[0,1,4,5,6,7,8,9,10,11,12],[0,1,2,3,4,5,6,7,8,9,10,11,12,13],[0,1,2,3,4,5,6,7,8,9,10,11,12,13,14]] (by kernel_rfl) ?_) | ((with_reducible refine And.intro ?_ ?_); first | (with_reducible rfl) | assumption | (simp only [go_sem]; done)))
  refine WK_for (fun m : Nat => ⟨[.s bi (a * 12) n c, .any, .v (.int .i64 m), .v (.int .i64 ((n : Int) - 1 - m))] ++ junk 24, H.set bi ⟨(revW L a n m).flatMap (rowL .u16 12), ty, kd⟩⟩) (fun m => m ≤ n / 2) (fun m => n / 2 - m) 0 ?_ (Nat.zero_le _) fun m hm => ?_
  · rw [show revW L a n 0 = L from rfl, set_get hb]; exact Weak.slots (by simp [go_sem])
  have hML := revW_len L a n m
  rcases Int.lt_or_le (m : Int) ((n : Int) - 1 - m) with hc | hc
  · have g1 : a + n - 1 - m < (revW L a n m).length := by omega
    have g2 : a + m < (revW L a n m).length := by omega
    have t1 : ((n : Int) - 1 - m).toNat = n - 1 - m := by omega
    have hfl : ((revW L a n m).flatMap (rowL .u16 12)).length = L.length * 12 := by rw [flat_len (rowL .u16 12) 12 (fun _ => rowL_length ..), hML]
    have f1 : seg ((revW L a n m).flatMap (rowL .u16 12)) (a * 12 + (n - 1 - m) * 12) 12 = (rowL .u16 12) ((revW L a n m).getD (a + n - 1 - m) default) := by
      have := flat_seg (rowL .u16 12) 12 (fun _ => rowL_length ..) (revW L a n m) (a + n - 1 - m) (g1)
      rw [getD_at _ (g1), ← this]; congr 1; omega
    have f2 : seg ((revW L a n m).flatMap (rowL .u16 12)) (a * 12 + (m) * 12) 12 = (rowL .u16 12) ((revW L a n m).getD (a + m) default) := by
      have := flat_seg (rowL .u16 12) 12 (fun _ => rowL_length ..) (revW L a n m) (a + m) (g2)
      rw [getD_at _ (g2), ← this]; congr 1; omega
    have hs : revW L a n (m + 1) = swapL (revW L a n m) (a + m) (a + n - 1 - m) := rfl
    unfold swapL at hs
    generalize (revW L a n m).getD (a + n - 1 - m) default = x1 at f1 hs
    generalize (revW L a n m).getD (a + m) default = x2 at f2 hs
    have w1 : wr ((revW L a n m).flatMap (rowL .u16 12)) (a * 12 + (m) * 12) ((rowL .u16 12) (x1)) = ((revW L a n m).set (a + m) (x1)).flatMap (rowL .u16 12) := by
      rw [← flat_set (rowL .u16 12) 12 (fun _ => rowL_length ..) _ _ x1 g2]; congr 1; omega
    have w2 : wr (((revW L a n m).set (a + m) x1).flatMap (rowL .u16 12)) (a * 12 + (n - 1 - m) * 12) ((rowL .u16 12) (x2)) = (((revW L a n m).set (a + m) x1).set (a + n - 1 - m) (x2)).flatMap (rowL .u16 12) := by
      rw [← flat_set (rowL .u16 12) 12 (fun _ => rowL_length ..) _ _ x2 (by rw [List.length_set]; exact g1)]; congr 1; omega
    have hfl2 : (((revW L a n m).set (a + m) x1).flatMap (rowL .u16 12)).length = L.length * 12 := by rw [flat_len (rowL .u16 12) 12 (fun _ => rowL_length ..), List.length_set, hML]
    repeat (first | (simp only [go_sem, Int.reduceLT, Int.reduceLE, Int.reduceEq, Int.reduceToNat, hc, hgs, hk, hlive, t1, f1, f2, w1, w2, hfl, hfl2, List.set_set, Nat.mul_one]) | ((with_reducible refine And.intro ?_ ?_); omega) | ((with_reducible refine isWKr (id := 3) ?_); refine WK_drawAt 3 [[],[],[],[],[],[],[4,5],[4,5,6],[],[],[8,9],[8,9,10],[0,1,4,5,6,7,8,9,10,11],[0,1,4,5,6,7,8,9,10,11,12],[0,1,2,3,4,5,6,7,8,9,10,11,12,13],[0,1,2,3,4,5,6,7,8,9,10,11,12,13,14]] (by kernel_rfl) ?_) | ((with_reducible refine And.intro ?_ ?_); first | (with_reducible rfl) | assumption | (simp only [go_sem]; done)))
    refine EK_again (m + 1) ?_ (by omega) (by omega)
    rw [hs]
    exact Weak.slots (by simp [go_sem] <;> omega)
  · have : m = n / 2 := by omega
    subst this
    repeat (first | (simp only [go_sem, Int.reduceLT, Int.reduceLE, Int.reduceEq, Int.reduceToNat, Int.not_lt.2 hc]) | ((with_reducible refine And.intro ?_ ?_); omega) | ((with_reducible refine isWKr (id := 3) ?_); refine WK_drawAt 3 [[],[],[],[],[],[],[4,5],[4,5,6],[],[],[8,9],[8,9,10],[0,1,4,5,6,7,8,9,10,11],[0,1,4,5,6,7,8,9,10,11,12],[0,1,2,3,4,5,6,7,8,9,10,11,12,13],[0,1,2,3,4,5,6,7,8,9,10,11,12,13,14]] (by kernel_rfl) ?_) | ((with_reducible refine And.intro ?_ ?_); first | (with_reducible rfl) | assumption | (simp only [go_sem]; done)))
    refine ret_at hq _ (.inr rfl) (by simp) ?_
    simp [go_sem]

end Go.Proofs.YtaekjojblkhfdaaGreat
namespace Go.Proofs.YtaekjojblkhfdaaGreat
open Go Go.Sx
theorem hz2 : ∀ x : Nat → Int, (rowL .i64 2 x).length = 2 := fun _ => rowL_length ..
/-- A turn is one of a book of n pages. -/
def validT (n : Nat) (f : Nat → Int) : Bool := decide (0 ≤ f 0) && (decide (f 0 ≤ f 1) && decide (f 1 ≤ (n : Int) - 1))
theorem validT_iff {n : Nat} {f : Nat → Int} : validT n f = true ↔ 0 ≤ f 0 ∧ f 0 ≤ f 1 ∧ f 1 < n := by
  unfold validT; simp; omega
/-- What the turns make of a list. -/
def tpL {α : Type} (L : List α) (Q : List (Nat → Int)) : List α := Q.foldl (fun L f => turnL L (f 0).toNat (f 1).toNat) L
theorem tpL_take {α : Type} (L : List α) {Q : List (Nat → Int)} {t : Nat} (ht : t < Q.length) : tpL L (Q.take (t + 1)) = turnL (tpL L (Q.take t)) (Q[t] 0).toNat (Q[t] 1).toNat := by
  unfold tpL; rw [List.take_succ_eq_append_getElem ht, List.foldl_append]; rfl
theorem tpL_len {α : Type} (L : List α) : ∀ (Q : List (Nat → Int)), (∀ f ∈ Q, validT L.length f = true) → (tpL L Q).length = L.length
  | [], _ => rfl
  | f :: Q, h => by
    have h1 := validT_iff.1 (h f (List.mem_cons_self ..))
    have hl : (turnL L (f 0).toNat (f 1).toNat).length = L.length := turnL_len (by omega) (by omega)
    show (tpL (turnL L (f 0).toNat (f 1).toNat) Q).length = L.length
    rw [tpL_len _ Q fun g hg => by rw [hl]; exact h g (List.mem_cons_of_mem _ hg), hl]
theorem tpL_map {α β : Type} (g : α → β) : ∀ (Q : List (Nat → Int)) (L : List α), tpL (L.map g) Q = (tpL L Q).map g
  | [], _ => rfl
  | f :: Q, L => by
    show tpL (turnL (L.map g) (f 0).toNat (f 1).toNat) Q = (tpL (turnL L (f 0).toNat (f 1).toNat) Q).map g
    rw [turnL_map, tpL_map g Q]
theorem inO_plain (l : List (Nat → Int)) : inO l (plainL l.length) = l := by
  apply List.ext_getElem?
  intro j
  unfold inO plainL
  rw [List.getElem?_map, List.getElem?_map]
  by_cases hj : j < l.length
  · rw [List.getElem?_range hj, List.getElem?_eq_getElem hj]
    simp only [Option.map_some, Int.toNat_natCast]
    rw [pg_at hj]
  · rw [List.getElem?_eq_none (by simp; omega), List.getElem?_eq_none (by omega)]; rfl
theorem inO_tpL (l : List (Nat → Int)) (Q : List (Nat → Int)) : inO l (tpL (plainL l.length) Q) = tpL l Q := by
  have h := tpL_map (fun k : Int => pg l k.toNat) Q (plainL l.length)
  have e : (plainL l.length).map (fun k : Int => pg l k.toNat) = l := inO_plain l
  rw [e] at h
  exact h.symm
theorem implTurnPages_ok {H : List Blk} {i off : Nat} {c : Cap} {b : Blk} {w : V} {l Q : List (Nat → Int)} (hat : At H i off (l.flatMap (rowL .u16 12)) b) (hf : off + (l.flatMap (rowL .u16 12)).length ≤ b.cells.length) (hw2 : Rd H w (rowL .i64 2) Q) (hl : l.length ≤ 1000000) (e : okB l = true) (hT1 : Q.length ≤ 200) (hv0 : ∀ f ∈ Q, validT l.length f = true) :
    Cal Tryz.prog 9 [.s i off l.length c, w] H fun u H' => u = .t [.s H.length 0 l.length (.u 0), .v (.int .i64 0)] ∧ H' = H ++ [⟨(tpL l Q).flatMap (rowL .u16 12), 63, .own 12⟩] := by
  have hT := hw2.lenV (P := Tryz.prog) slTy29
  have hsol2 := hw2.solid
  have h : Rd H (.s i off l.length c) (rowL .u16 12) l := .inr ⟨i, off, c, b, rfl, hat, hf⟩
  have hil := hat.lt
  have e2 : ((200 : Int) < (Q.length : Int)) = False := eq_false (by omega)
  refine cal_fn 52 mixed Tryz.func9 Tryz.ntmps9 Tryz.results9 rfl rfl rfl fun hw cx hx hq => ?_
  repeat (first | (simp only [go_sem, Int.reduceLT, Int.reduceLE, Int.reduceEq, Int.reduceToNat, e, hT, e2, hsol2]) | ((with_reducible refine And.intro ?_ ?_); omega) | ((with_reducible refine isSK ?_); first | (refine call_ret (validBook h (by omega)) (by simp only [go_sem, Int.reduceLT, Int.reduceLE, Int.reduceEq, Int.reduceToNat, e, hT, e2, hsol2]) ?_) | (refine call_ret (cloneBook hat hf hl) (by simp only [go_sem, Int.reduceLT, Int.reduceLE, Int.reduceEq, Int.reduceToNat, e, hT, e2, hsol2]) ?_)) | ((with_reducible refine And.intro ?_ ?_); first | (with_reducible rfl) | assumption | (simp only [go_sem]; done)))
  refine WK_for (fun t : Nat => ⟨[.s i off l.length c, w, .any, .any, .any, .any, .s H.length 0 l.length (.u 0), .any, .any, .any, .any, .any, .any, .any, .any, .any, .any, .any, .any, w, .v (.int .i64 Q.length), .v (.int .i64 t)] ++ junk 32, H ++ [⟨(tpL l (Q.take t)).flatMap (rowL .u16 12), 63, .own 12⟩]⟩) (fun t => t ≤ Q.length ∧ ∀ j (hj : j < Q.length), j < t → validT l.length Q[j] = true) (fun t => Q.length - t) 0 (Weak.slots ?_) ?_ fun t ht => ?_
  · simp [go_sem]
  · simp
  have hval : ∀ f ∈ Q.take t, validT l.length f = true := fun f hf => by
    obtain ⟨j, hj, rfl⟩ := List.mem_iff_getElem.1 hf
    rw [List.getElem_take]; simp at hj; exact ht.2 j (by omega) (by omega)
  have htl := tpL_len l (Q.take t) hval
  rcases Int.lt_or_le (t : Int) Q.length with hc | hc
  · have hj : t < Q.length := by omega
    obtain ⟨i2, off2, c2, b2, rfl, hat2, hfit2⟩ := hw2.full (by omega)
    have hlt2 := hat2.lt
    have a0 := hat2.elem (rowL .i64 2) 2 hz2 hj
    have hfit := hat2.fits (rowL .i64 2) 2 hz2 hj (by omega)
    have c0 : cel (rowL .i64 2 Q[t]) 0 = .v (.int .i64 (Q[t] 0)) := rfl
    have c1 : cel (rowL .i64 2 Q[t]) 1 = .v (.int .i64 (Q[t] 1)) := rfl
    have g2 : ∀ L : List Blk, (H ++ L)[i2]? = some b2 := fun L => get_app hat2.get
    by_cases hv : validT l.length Q[t] = true
    · have hv2 := validT_iff.1 hv
      have hs := tpL_take l hj
      obtain ⟨p, hp⟩ : ∃ p : Nat, Q[t] 0 = p := ⟨(Q[t] 0).toNat, by omega⟩
      obtain ⟨q, hq2⟩ : ∃ q : Nat, Q[t] 1 = q := ⟨(Q[t] 1).toNat, by omega⟩
      rw [hp, hq2] at hs
      rw [hp] at c0
      rw [hq2] at c1
      simp only [Int.toNat_natCast] at hs
      have hpq : p ≤ q := by omega
      have hqn : q < l.length := by omega
      have h1 : (decide (0 ≤ (p : Int)) && decide ((p : Int) ≤ (l.length : Int) - 1)) = true := by simp; omega
      have h2 : (decide (0 ≤ (q : Int)) && decide ((q : Int) ≤ (l.length : Int) - 1)) = true := by simp; omega
      have h3 : ((q : Int) < (p : Int)) = False := eq_false (by omega)
      have h4 : ((p : Int) = (l.length : Int)) = False := eq_false (by omega)
      have t1 : ((q : Int) + 1).toNat = q + 1 := by omega
      have hfl : ((tpL l (Q.take t)).flatMap (rowL .u16 12)).length = l.length * 12 := by rw [flat_len (rowL .u16 12) 12 hz12, htl]
      have hrv := revW_turn (tpL l (Q.take t)) hpq (by omega)
      rw [← hs] at hrv
      repeat (first | (simp only [go_sem, Int.reduceLT, Int.reduceLE, Int.reduceEq, Int.reduceToNat, hT, hc, g2, hat2.live, a0, hfit, hlt2, c0, c1, h1, h2, h3, h4, t1, hfl, hrv, zeroA]) | ((with_reducible refine And.intro ?_ ?_); omega) | ((with_reducible refine isSK ?_); first | (refine call_ret (isPage h.app (by omega)) (by simp only [go_sem, Int.reduceLT, Int.reduceLE, Int.reduceEq, Int.reduceToNat, hT, hc, g2, hat2.live, a0, hfit, hlt2, c0, c1, h1, h2, h3, h4, t1, hfl, hrv, zeroA]) ?_) | (refine call_ret (reverseB (a := p) (n := q + 1 - p) (L := tpL l (Q.take t)) (by first | exact (Go.Sx.get_at0 _ _).trans rfl | exact (Go.Sx.get_at _ _ 1).trans rfl | exact (Go.Sx.get_at _ _ 2).trans rfl | exact (Go.Sx.get_at _ _ 3).trans rfl | exact (Go.Sx.get_at _ _ 4).trans rfl | exact (Go.Sx.get_at _ _ 5).trans rfl | exact (Go.Sx.get_at _ _ 6).trans rfl | exact (Go.Sx.get_at _ _ 7).trans rfl | exact (Go.Sx.get_at _ _ 8).trans rfl | exact (Go.Sx.get_at _ _ 9).trans rfl | exact (Go.Sx.get_at _ _ 10).trans rfl | exact (Go.Sx.get_at _ _ 11).trans rfl | exact (Go.Sx.get_at _ _ 12).trans rfl | exact (Go.Sx.get_at _ _ 13).trans rfl | exact (Go.Sx.get_at _ _ 14).trans rfl | exact (Go.Sx.get_at _ _ 15).trans rfl) (by rfl) (by omega) (by omega)) (by simp only [go_sem, Int.reduceLT, Int.reduceLE, Int.reduceEq, Int.reduceToNat, hT, hc, g2, hat2.live, a0, hfit, hlt2, c0, c1, h1, h2, h3, h4, t1, hfl, hrv, zeroA]) ?_)) | ((with_reducible refine And.intro ?_ ?_); first | (with_reducible rfl) | assumption | (simp only [go_sem]; done)))
      refine EK_again (t + 1) ?_ ⟨by omega, fun j hj2 hj3 => ?_⟩ (by omega)
      · exact Weak.keepN rfl (by simp [go_sem] <;> omega) (by simp [hx]) (by simp [go_sem, hil, hlt2, (flat_rowL .u16 12).lts] <;> omega) (hw.app (by simp [go_sem, hil, hlt2, (flat_rowL .u16 12).lts] <;> omega))
      · by_cases e3 : j = t
        · subst e3; exact hv
        · exact ht.2 j hj2 (by omega)
    · exact absurd (hv0 _ (List.getElem_mem hj)) hv
  · have : t = Q.length := by omega
    subst this
    repeat (first | (simp only [go_sem, Int.reduceLT, Int.reduceLE, Int.reduceEq, Int.reduceToNat, hT, Int.not_lt.2 hc]) | ((with_reducible refine And.intro ?_ ?_); omega) | ((with_reducible refine And.intro ?_ ?_); first | (with_reducible rfl) | assumption | (simp only [go_sem]; done)))
    refine ret_at hq _ (.inl rfl) (by simp) ?_
    rw [List.take_length]
    simp [go_sem]


theorem implTurnPages_okF {H : List Blk} {i n : Nat} {c : Cap} {w : V} {l r Q : List (Nat → Int)} {ty : TypeId} {kd : BK} (hb : H[i]? = some ⟨(l ++ r).flatMap (rowL .u16 12), ty, kd⟩) (hw2 : Rd H w (rowL .i64 2) Q) (hl : l.length ≤ 1000000) (e : okB l = true) (hT1 : Q.length ≤ 200) (hv0 : ∀ f ∈ Q, validT l.length f = true) (hkd : kd.live = true := by rfl) (hn : n = l.length := by rfl) :
    Cal Tryz.prog 9 [.s i 0 n c, w] H fun u H' => u = .t [.s H.length 0 (tpL l Q).length (.u 0), .v (.int .i64 0)] ∧ H' = H ++ [⟨(tpL l Q).flatMap (rowL .u16 12), 63, .own 12⟩] := by
  subst hn
  rw [tpL_len l Q hv0]
  have hat : At H i 0 (l.flatMap (rowL .u16 12)) ⟨(l ++ r).flatMap (rowL .u16 12), ty, kd⟩ := ⟨hb, hkd, by rw [List.flatMap_append]; exact seg_app _ _⟩
  exact implTurnPages_ok hat (by simp) hw2 hl e hT1 hv0

end Go.Proofs.YtaekjojblkhfdaaGreat
