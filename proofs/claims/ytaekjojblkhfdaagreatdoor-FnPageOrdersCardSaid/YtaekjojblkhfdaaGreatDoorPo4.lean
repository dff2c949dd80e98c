/- Contracts of functions of the translated program, by the walk. -/
import Derived.Test.YtaekjojblkhfdaaGreatDoorDt5
import Derived.Test.YtaekjojblkhfdaaGreatDoorNp2
import Derived.Test.YtaekjojblkhfdaaGreatDoorC6
import Derived.Test.YtaekjojblkhfdaaGreatDoorLD
import Derived.Test.YtaekjojblkhfdaaGreatDoorTb6
import Derived.Test.YtaekjojblkhfdaaGreatDoorLo4
set_option linter.unusedVariables false
set_option linter.unusedSimpArgs false
set_option maxRecDepth 8000
set_option maxHeartbeats 16000000
namespace Go.Proofs.YtaekjojblkhfdaaGreatDoor
open Go Go.Sx
theorem rd_cells {α : Type} {H : List Blk} {v : V} {enc : α → List V} {l : List α} (h : Rd H v enc l) : cellsL v = [v] := by
  rcases h with ⟨rfl, _⟩ | ⟨i, off, c, b, rfl, _⟩ <;> rfl
theorem near1 {H : List Blk} {bb bp p : Nat} {v : V} {l : List (Nat → Int)} {x y : Int} {t1 t2 : TypeId} {k1 k2 : BK} (h : Rd H v (rowL .u16 12) l) (h12 : ∀ f ∈ l, F12 f) (hb : H[bb]? = some ⟨[v], t1, k1⟩) (l1 : k1.live = true) (hp : H[bp]? = some ⟨[.v (.int .i64 p)], t2, k2⟩) (l2 : k2.live = true)
    (hpl : p < l.length) (hx0 : 0 ≤ x ∧ x < l.length) (hy0 : 0 ≤ y ∧ y < l.length) :
    Cal Tryz.prog 73 ([.v (.int .i64 x), .v (.int .i64 y)] ++ [.p bb 0, .p bp 0]) H fun u H' => u = .v (.int .i64 (cmpI (jmp l p x.toNat) (jmp l p y.toNat))) ∧ H' = H := by
  have hsol := h.solid
  have b1 := (List.getElem?_eq_some_iff.1 hb).1
  have b2 := (List.getElem?_eq_some_iff.1 hp).1
  obtain ⟨i, off, c, b, rfl, hat⟩ := h.row (by omega)
  have a0 := hat.elem (rowL .u16 12) 12 hz12 (show p < l.length by omega)
  have a1 := hat.elem (rowL .u16 12) 12 hz12 (show x.toNat < l.length by omega)
  have a2 := hat.elem (rowL .u16 12) 12 hz12 (show y.toNat < l.length by omega)
  have f0 := hat.fits (rowL .u16 12) 12 hz12 (show p < l.length by omega) (by omega)
  have f1 := hat.fits (rowL .u16 12) 12 hz12 (show x.toNat < l.length by omega) (by omega)
  have f2 := hat.fits (rowL .u16 12) 12 hz12 (show y.toNat < l.length by omega) (by omega)
  rw [← pg_at] at a0 a1 a2
  have tp : ((p : Nat) : Int).toNat = p := by omega
  simp only [List.cons_append, List.nil_append]
  refine cal_fn 22 mixed Tryz.func73 Tryz.ntmps73 Tryz.results73 rfl rfl rfl fun hw cx hx hq => ?_
  repeat (first | (simp only [go_sem, Int.reduceLT, Int.reduceLE, Int.reduceEq, Int.reduceToNat, hb, l1, hp, l2, b1, b2, hat.get, hat.live, a0, a1, a2, hsol, tp]) | ((with_reducible refine And.intro ?_ ?_); omega) | ((with_reducible refine isSK ?_); first | refine call_ret (jump (pg_12 h12 _) (pg_12 h12 _)) ?_ ?_ | refine call_ret (compare64) ?_ ?_) | ((with_reducible refine isMC ?_); refine mcall_ret (jump (pg_12 h12 _) (pg_12 h12 _)) ?_ ?_ ?_ ) | ((with_reducible refine isWKr (id := 1) ?_); refine WK_drawUp 1 [[],[],[0,1],[0,1,2],[],[],[4,5],[4,5,6],[0,1,2,3,4,5,6,7],[],[],[9,10],[9,10,11],[],[],[13,14],[13,14,15],[0,1,2,3,4,5,6,7,8,9,10,11,12,13,14,15,16],[0,1,2,3,4,5,6,7,8,9,10,11,12,13,14,15,16,17],[0,1,2,3,4,5,6,7,8,9,10,11,12,13,14,15,16,17,18]] 17 (by kernel_rfl) ?_; dsimp only [List.take, List.drop]) )
  refine ret_same hq _ (.inl rfl) ?_
  simp [go_sem, jmp]
def outP (p i : Nat) : List Int := (List.range (if i ≤ p then i else i - 1)).map (f0P p)
theorem outP_len (p i : Nat) : (outP p i).length = if i ≤ p then i else i - 1 := by simp [outP]
theorem outP_same (p : Nat) : outP p (p + 1) = outP p p := by unfold outP; rw [if_neg (by omega), if_pos (Nat.le_refl _), Nat.add_sub_cancel]
theorem outP_succ {p i : Nat} (h : i ≠ p) : outP p (i + 1) = outP p i ++ [(i : Int)] := by
  unfold outP
  by_cases h1 : i < p
  · rw [if_pos (by omega), if_pos (by omega), List.range_succ, List.map_append]
    simp [f0P, h1]
  · rw [if_neg (by omega), if_neg (by omega), show i + 1 - 1 = (i - 1) + 1 by omega, List.range_succ, List.map_append]
    simp [f0P]
    rw [if_neg (by omega)]; omega
theorem outP_all {p n : Nat} (h : p < n) : outP p n = nearL (f0P p) (n - 1) := by unfold outP nearL; rw [if_neg (by omega)]
def nrC (l : List (Nat → Int)) (p c : Int) : Int := if pageC l p = 0 then (if 0 ≤ c ∧ c ≤ (l.length : Int) - 1 then 0 else 2) else pageC l p
theorem nrC_ok {l : List (Nat → Int)} {p c : Int} (h : nrC l p c = 0) : pageC l p = 0 ∧ 0 ≤ c ∧ c ≤ (l.length : Int) - 1 := by
  unfold nrC at h
  split at h
  · split at h
    · exact ⟨‹_›, ‹_›⟩
    · cases h
  · contradiction
theorem implNear_ok {H : List Blk} {v : V} {l : List (Nat → Int)} {p c : Nat} {g : Nat → Int} (h : Rd H v (rowL .u16 12) l) (hR : ∀ f ∈ l, R16 f) (hc0 : nrC l p c = 0) (hg : EnumP (fun x => jmp l p x.toNat) l.length p g) :
    Cal Tryz.prog 27 [v, .v (.int .i64 p), .v (.int .i64 c)] H fun u H' => u = .t [.s H.length 0 (nearL g c).length (.u 0), .v (.int .i64 0)] ∧ H' = H ++ [⟨(nearL g c).flatMap i64C, 2, .own 1⟩] := by
  have hsol := h.solid
  have hL := h.lenV (P := Tryz.prog) slTy25
  have hce := rd_cells h
  obtain ⟨hp0, hcr⟩ := nrC_ok hc0
  obtain ⟨hB, hp⟩ := pageC_ok hp0
  have h12 := okB_12 hB hR
  have h40 := (okB_iff.1 hB).1
  have hr2 : (decide (0 ≤ (c : Int)) && decide ((c : Int) ≤ (l.length : Int) - 1)) = true := by rw [decide_eq_true hcr.1, decide_eq_true hcr.2]; rfl
  refine cal_fn 41 mixed Tryz.func27 Tryz.ntmps27 Tryz.results27 rfl rfl rfl fun hw cx hx hq => ?_
  have hn1 : norefH (H.length + 2) H := norefH_wf hw (by omega)
  have hv1 : v.noref (H.length + 2) = true := h.noref (by omega)
  have hf1 : forget (H.length + 2) v = v := h.forget (by omega)
  have hd1 : (H.length = H.length + 2) = False := eq_false (by omega)
  have hd2 : (H.length + 1 = H.length + 2) = False := eq_false (by omega)
  repeat (first | (simp only [go_sem, Int.reduceLT, Int.reduceLE, Int.reduceEq, Int.reduceToNat, hsol, hce, hp0, hL, hr2]) | ((with_reducible refine And.intro ?_ ?_); omega) | ((with_reducible refine isSK ?_); first | refine call_ret (checkPage h.app (by omega)) ?_ ?_ | refine call_ret (inRange) ?_ ?_) )
  refine WK_for (fun i : Nat => ⟨[v, .v (.int .i64 p), .v (.int .i64 c), .p H.length 0, .p (H.length + 1) 0, .any, .any, .any, .any, .s (H.length + 2) 0 (outP p i).length (.u 0), .any, .any, .any, .any, .any, .any, .any, .any, .any, .any, .any, .any, .any, .any, .any, .v (.int .i64 l.length), .v (.int .i64 i)] ++ junk 17, H ++ [⟨[v], 25, .fix⟩, ⟨[.v (.int .i64 p)], 2, .fix⟩, ⟨(outP p i).flatMap i64C, 2, .own 1⟩]⟩) (fun i => i ≤ l.length) (fun i => l.length - i) 0 (Weak.slots ?_) (Nat.zero_le _) fun i hi => ?_
  · simp [go_sem, outP]
  have hlen := outP_len p i
  have hl2 : ((outP p i).flatMap i64C).length = (outP p i).length := by rw [flat_i64.flen, Nat.mul_one]
  have hn2 : norefs (H.length + 2) ((outP p i).flatMap i64C) = true := flat_i64.norefs _ _
  have hle : (outP p i).length ≤ 40 := by rw [hlen]; split <;> omega
  rcases Int.lt_or_le (i : Int) l.length with hc | hc
  · by_cases e : i = p
    · subst e
      have e1 : ((i : Int) = (i : Int)) = True := eq_true rfl
      repeat (first | (simp only [go_sem, Int.reduceLT, Int.reduceLE, Int.reduceEq, Int.reduceToNat, hc, e1, hsol]) | ((with_reducible refine And.intro ?_ ?_); omega) )
      refine EK_again (i + 1) ?_ (by omega) (by omega)
      rw [outP_same]
      exact Weak.slots (by simp [go_sem])
    · have e1 : ((i : Int) = (p : Int)) = False := eq_false (by omega)
      have hsu := outP_succ e
      repeat (first | (simp only [go_sem, Int.reduceLT, Int.reduceLE, Int.reduceEq, Int.reduceToNat, hc, e1, hsol, hn1, hn2, hv1, hf1, hd1, hd2, hl2, hx]) | ((with_reducible refine And.intro ?_ ?_); omega) )
      refine EK_again (i + 1) ?_ (by omega) (by omega)
      rw [hsu]
      simp only [List.flatMap_append, List.flatMap_singleton, List.length_append, List.length_singleton]
      have hvl : ∀ n, H.length ≤ n → V.lt n v = True := fun n hn => h.vlt hn
      exact Weak.keepN rfl (by simp [go_sem] <;> omega) (by simp [hx]) (by simp [go_sem, flat_i64.lts, i64C, hvl] <;> omega) (hw.app (by simp [go_sem, flat_i64.lts, i64C, hvl] <;> omega))
  · obtain rfl : i = l.length := by omega
    repeat ((simp only [go_sem, Int.reduceLT, Int.reduceLE, Int.reduceEq, Int.reduceToNat, Int.not_lt.2 hc, hsol]) )
    have hpn : p < l.length := by omega
    rw [outP_all hpn, nearL_row, nearL_len]
    have hset : ∀ X Y : Blk, (H ++ [⟨[v], 25, .fix⟩, ⟨[.v (.int .i64 p)], 2, .fix⟩, X]).set (H.length + 2) Y = H ++ [⟨[v], 25, .fix⟩, ⟨[.v (.int .i64 p)], 2, .fix⟩, Y] := fun X Y => by
      rw [List.set_append_right _ _ (by omega)]
      simp
    have hst := sortStable (H := H ++ [⟨[v], 25, .fix⟩, ⟨[.v (.int .i64 p)], 2, .fix⟩, ⟨rowL .i64 (l.length - 1) (f0P p), 2, .own 1⟩]) (bi := H.length + 2) (N := l.length - 1) (ty := 2) (kd := .own 1) (c := .u 0) (fn := 73) (cs := [.p H.length 0, .p (H.length + 1) 0]) (kf := fun x => jmp l p x.toNat) (D := fun x => 0 ≤ x ∧ x < l.length) (by simp) rfl (by omega) rfl
      (fun g x y hx hy => by rw [hset]; exact near1 h.app h12 (by exact (Go.Sx.get_at0 _ _).trans rfl ) rfl (by exact (Go.Sx.get_at _ _ 1).trans rfl ) rfl hpn hx hy) (f := f0P p) (fun x hx => (f0P_val (by omega)).1) (by omega) (fun x y hxy _ => f0P_inc hxy)
    simp only [hset] at hst
    refine call_ex hst (by simp only [go_sem]) ?_
    rintro _ _ ⟨g2, mx, sr, rfl, rfl⟩
    have hu := (enum_of hpn mx sr).uniq hg
    have hrow : rowL .i64 (l.length - 1) g2 = rowL .i64 (l.length - 1) g := rowL_ext _ _ _ _ fun x hx => hu x (by omega)
    rw [hrow]
    have hcn : c ≤ l.length - 1 := by omega
    obtain ⟨r, hr⟩ : ∃ r, nearL g (l.length - 1) = nearL g c ++ r := by
      refine ⟨(nearL g (l.length - 1)).drop c, ?_⟩
      have e : nearL g c = (nearL g (l.length - 1)).take c := by unfold nearL; rw [← List.map_take, List.take_range, Nat.min_eq_left hcn]
      rw [e, List.take_append_drop]
    have hat := At.mk' (H := H) (L := [⟨[v], 25, .fix⟩, ⟨[.v (.int .i64 p)], 2, .fix⟩, ⟨rowL .i64 (l.length - 1) g, 2, .own 1⟩]) 2 rfl rfl
    rw [← nearL_row, hr, List.flatMap_append] at hat
    have hat2 := hat.left
    rw [← List.flatMap_append, ← hr, nearL_row] at hat2
    have hfl : ((nearL g c).flatMap i64C).length = c := by rw [flat_i64.flen, Nat.mul_one, nearL_len]
    have e3 : ((c : Int) ≤ ((l.length - 1 : Nat) : Int)) = True := eq_true (by omega)
    have hcl := fun cap => cloneI (l := nearL g c) (c := cap) hat2 (by rw [hfl]; simp [rowL_length]; omega) (by rw [nearL_len]; omega)
    simp only [nearL_len] at hcl
    repeat (first | (simp only [go_sem, Int.reduceLT, Int.reduceLE, Int.reduceEq, Int.reduceToNat, e3, rowL_length]) | ((with_reducible refine And.intro ?_ ?_); omega) | ((with_reducible refine isSK ?_); refine call_ret (hcl _) ?_ ?_) )
    refine ret_one hq hw _ (.inl rfl) 3 rfl (by rw [flat_i64.lts]; trivial) (.t [.s H.length 0 (nearL g c).length (.u 0), .v (.int .i64 0)]) (by simp [go_sem]) ?_
    simp [go_sem, conc, concs, upσ, Cap.val, nearL_len]
end Go.Proofs.YtaekjojblkhfdaaGreatDoor
namespace Go.Proofs.YtaekjojblkhfdaaGreatDoor
open Go Go.Sx
def BstP (k : Int → Int) (el : Int → Prop) (n : Nat) (b : Int) : Prop := (b = -1 ∧ ∀ y : Int, 0 ≤ y → y < n → ¬ el y) ∨ ((0 ≤ b ∧ b < n) ∧ el b ∧ ∀ y : Int, 0 ≤ y → y < n → el y → y ≠ b → Bef k b y)
theorem BstP.skip {k : Int → Int} {el : Int → Prop} {n : Nat} {b : Int} (h : BstP k el n b) (hn : ¬ el n) : BstP k el (n + 1) b := by
  rcases h with ⟨h1, h2⟩ | ⟨h1, h2, h3⟩
  · refine .inl ⟨h1, fun y h0 hy hel => ?_⟩
    by_cases e : y = n
    · subst e; exact hn hel
    · exact h2 y h0 (by omega) hel
  · refine .inr ⟨by omega, h2, fun y h0 hy hel hne => ?_⟩
    by_cases e : y = n
    · subst e; exact absurd hel hn
    · exact h3 y h0 (by omega) hel hne
theorem BstP.take {k : Int → Int} {el : Int → Prop} {n : Nat} {b : Int} (h : BstP k el n b) (hn : el n) (hb : 0 ≤ b → k n < k b) : BstP k el (n + 1) n := by
  refine .inr ⟨by omega, hn, fun y h0 hy hel hne => ?_⟩
  rcases h with ⟨h1, h2⟩ | ⟨h1, h2, h3⟩
  · exact absurd hel (h2 y h0 (by omega))
  · have q := hb h1.1
    by_cases e : y = b
    · subst e; exact .inl q
    · have := h3 y h0 (by omega) hel e
      unfold Bef at *; omega
theorem BstP.keep {k : Int → Int} {el : Int → Prop} {n : Nat} {b : Int} (h : BstP k el n b) (h0 : 0 ≤ b) (hb : ¬ k n < k b) : BstP k el (n + 1) b := by
  rcases h with ⟨h1, h2⟩ | ⟨h1, h2, h3⟩
  · omega
  · refine .inr ⟨by omega, h2, fun y hy0 hy hel hne => ?_⟩
    by_cases e : y = n
    · subst e; unfold Bef; omega
    · exact h3 y hy0 (by omega) hel hne
theorem BstP.done {n p j : Nat} {k : Int → Int} {g : Nat → Int} {b : Int} (hg : EnumP k n p g) (hj : j + 1 < n) (h : BstP k (fun y => y ≠ p ∧ y ∉ nearL g j) n b) : b = g j := by
  have hel : g j ≠ p ∧ g j ∉ nearL g j := ⟨(hg.val j hj).2, fun hm => by
    obtain ⟨x, hx, e⟩ := List.mem_map.1 hm
    have hx := List.mem_range.1 hx
    have := hg.inj (by omega) hj e
    omega⟩
  have hv := (hg.val j hj).1
  rcases h with ⟨_, h2⟩ | ⟨h1, h2, h3⟩
  · exact absurd hel (h2 _ hv.1 hv.2)
  · obtain ⟨x, hx, e⟩ := hg.all b h1.1 h1.2 h2.1
    have hxj : ¬ x < j := fun hlt => h2.2 (List.mem_map.2 ⟨x, List.mem_range.2 hlt, e⟩)
    by_cases e2 : x = j
    · rw [← e, e2]
    · have b1 := hg.srt j x (by omega) (by omega) (by omega)
      have b2 := h3 (g j) hv.1 hv.2 hel (by rw [← e]; intro e3; exact e2 (hg.inj hx hj e3.symm))
      rw [e] at b1
      exact (b1.irr b2).elim
theorem specNear_ok {H : List Blk} {v : V} {l : List (Nat → Int)} {p c : Nat} {g : Nat → Int} (h : Rd H v (rowL .u16 12) l) (hR : ∀ f ∈ l, R16 f) (hc0 : nrC l p c = 0) (hg : EnumP (fun x => jmp l p x.toNat) l.length p g) :
    Cal Tryz.prog 28 [v, .v (.int .i64 p), .v (.int .i64 c)] H fun u H' => u = .t [.s H.length 0 (nearL g c).length (.u 0), .v (.int .i64 0)] ∧ H' = H ++ [⟨(nearL g c).flatMap i64C, 2, .own 1⟩] := by
  have hsol := h.solid
  have hL := h.lenV (P := Tryz.prog) slTy25
  obtain ⟨hp0, hcr⟩ := nrC_ok hc0
  obtain ⟨hB, hp⟩ := pageC_ok hp0
  have h12 := okB_12 hB hR
  have h40 := (okB_iff.1 hB).1
  have hr2 : (decide (0 ≤ (c : Int)) && decide ((c : Int) ≤ (l.length : Int) - 1)) = true := by rw [decide_eq_true hcr.1, decide_eq_true hcr.2]; rfl
  refine cal_fn 67 mixed Tryz.func28 Tryz.ntmps28 Tryz.results28 rfl rfl rfl fun hw cx hx hq => ?_
  have hn1 : norefH H.length H := norefH_wf hw (Nat.le_refl _)
  have hv1 : v.noref H.length = true := h.noref (by omega)
  have hf1 : forget H.length v = v := h.forget (by omega)
  have hvl : ∀ n, H.length ≤ n → V.lt n v = True := fun n hn => h.vlt hn
  repeat (first | (simp only [go_sem, Int.reduceLT, Int.reduceLE, Int.reduceEq, Int.reduceToNat, hsol, hp0, hL, hr2]) | ((with_reducible refine And.intro ?_ ?_); omega) | ((with_reducible refine isSK ?_); first | refine call_ret (l04Page h (by omega)) ?_ ?_ | refine call_ret (l00In) ?_ ?_) )
  refine WK_for (fun j : Nat => ⟨[v, .v (.int .i64 p), .v (.int .i64 c), .any, .any, .any, .any, .any, .any, .s H.length 0 (nearL g j).length (.u 0)] ++ junk 60, H ++ [⟨(nearL g j).flatMap i64C, 2, .own 1⟩]⟩) (fun j => j ≤ c) (fun j => c - j) 0 (Weak.slots ?_) (Nat.zero_le _) fun j hj => ?_
  · simp [go_sem, nearL]
  have hlen := nearL_len g j
  have hl2 : ((nearL g j).flatMap i64C).length = (nearL g j).length := by rw [flat_i64.flen, Nat.mul_one]
  have hn2 : norefs H.length ((nearL g j).flatMap i64C) = true := flat_i64.norefs _ _
  rcases Int.lt_or_le (j : Int) c with hc | hc
  · have e0 : (((nearL g j).length : Int) < (c : Int)) = True := eq_true (by omega)
    repeat ((simp only [go_sem, Int.reduceLT, Int.reduceLE, Int.reduceEq, Int.reduceToNat, hsol, e0]) )
    refine WK_for (fun s : Nat × Int => ⟨[v, .v (.int .i64 p), .v (.int .i64 c), .any, .any, .any, .any, .any, .any, .s H.length 0 (nearL g j).length (.u 0), .v (.int .i64 s.2), .v (.int .i64 s.1)] ++ junk 58, H ++ [⟨(nearL g j).flatMap i64C, 2, .own 1⟩]⟩) (fun s => s.1 ≤ l.length ∧ BstP (fun x => jmp l p x.toNat) (fun y => y ≠ p ∧ y ∉ nearL g j) s.1 s.2) (fun s => l.length - s.1) (0, -1) (Weak.slots ?_) ⟨Nat.zero_le _, .inl ⟨rfl, fun y h1 h2 => by dsimp only at h2; omega⟩⟩ fun s hs => ?_
    · simp [go_sem]
    obtain ⟨k, bst⟩ := s
    obtain ⟨hk, hbst⟩ := hs
    simp only at hk hbst ⊢
    have hrg : -1 ≤ bst ∧ bst < l.length := by rcases hbst with ⟨h1, _⟩ | ⟨h1, _⟩ <;> omega
    rcases Int.lt_or_le (k : Int) l.length with hc2 | hc2
    · have hk2 : k < l.length := by omega
      by_cases e : k = p
      · have e1 : ((k : Int) = (p : Int)) = True := eq_true (by omega)
        repeat (first | (simp only [go_sem, Int.reduceLT, Int.reduceLE, Int.reduceEq, Int.reduceToNat, hsol, hL, hc2, e1]) | ((with_reducible refine And.intro ?_ ?_); omega) )
        refine EK_again (k + 1, bst) (Weak.slots ?_) ⟨by dsimp only; omega, hbst.skip fun h => h.1 (by omega)⟩ (by dsimp only; omega)
        simp [go_sem]
      have e1 : ((k : Int) = (p : Int)) = False := eq_false (by omega)
      cases e6 : hasI (nearL g j) k
      · have hel : (k : Int) ≠ p ∧ (k : Int) ∉ nearL g j := ⟨by omega, fun hm => by rw [hasI_iff.2 hm] at e6; cases e6⟩
        by_cases e7 : bst < 0
        · repeat (first | (simp only [go_sem, Int.reduceLT, Int.reduceLE, Int.reduceEq, Int.reduceToNat, hsol, hL, hc2, e1, e6, e7]) | ((with_reducible refine And.intro ?_ ?_); omega) | ((with_reducible refine isSK ?_); refine call_ret (l00Has (l := nearL g j) (Rd.own0 rfl rfl rfl) (by omega)) ?_ ?_) )
          refine EK_again (k + 1, (k : Int)) (Weak.slots ?_) ⟨by dsimp only; omega, hbst.take hel fun h => absurd e7 (by omega)⟩ (by dsimp only; omega)
          simp [go_sem]
        · by_cases e8 : jmp l p k < jmp l p bst.toNat
          · repeat (first | (simp only [go_sem, Int.reduceLT, Int.reduceLE, Int.reduceEq, Int.reduceToNat, hsol, hL, hc2, e1, e6, e7, e8, Int.toNat_natCast]) | ((with_reducible refine And.intro ?_ ?_); omega) | ((with_reducible refine isSK ?_); first | refine call_ret (l00Has (l := nearL g j) (Rd.own0 rfl rfl rfl) (by omega)) ?_ ?_ | refine call_ret (l04Jump h.app h12 (by omega) (by omega)) ?_ ?_) )
            refine EK_again (k + 1, (k : Int)) (Weak.slots ?_) ⟨by dsimp only; omega, hbst.take hel fun h => by simpa using e8⟩ (by dsimp only; omega)
            simp [go_sem]
          · repeat (first | (simp only [go_sem, Int.reduceLT, Int.reduceLE, Int.reduceEq, Int.reduceToNat, hsol, hL, hc2, e1, e6, e7, e8, Int.toNat_natCast]) | ((with_reducible refine And.intro ?_ ?_); omega) | ((with_reducible refine isSK ?_); first | refine call_ret (l00Has (l := nearL g j) (Rd.own0 rfl rfl rfl) (by omega)) ?_ ?_ | refine call_ret (l04Jump h.app h12 (by omega) (by omega)) ?_ ?_) )
            refine EK_again (k + 1, bst) (Weak.slots ?_) ⟨by dsimp only; omega, hbst.keep (by omega) (by simpa using e8)⟩ (by dsimp only; omega)
            simp [go_sem]
      · repeat (first | (simp only [go_sem, Int.reduceLT, Int.reduceLE, Int.reduceEq, Int.reduceToNat, hsol, hL, hc2, e1, e6]) | ((with_reducible refine And.intro ?_ ?_); omega) | ((with_reducible refine isSK ?_); refine call_ret (l00Has (l := nearL g j) (Rd.own0 rfl rfl rfl) (by omega)) ?_ ?_) )
        refine EK_again (k + 1, bst) (Weak.slots ?_) ⟨by dsimp only; omega, hbst.skip fun h => h.2 (hasI_iff.1 e6)⟩ (by dsimp only; omega)
        simp [go_sem]
    · obtain rfl : k = l.length := by omega
      obtain rfl := BstP.done hg (by omega) hbst
      have hd1 : (H.length + 1 = H.length) = False := eq_false (by omega)
      repeat (first | (simp only [go_sem, Int.reduceLT, Int.reduceLE, Int.reduceEq, Int.reduceToNat, hsol, hL, Int.not_lt.2 hc2, hl2, hn1, hn2, hv1, hf1, hd1, hx]) | ((with_reducible refine And.intro ?_ ?_); omega) )
      refine EK_again (j + 1) ?_ (by omega) (by omega)
      rw [nearL_succ]
      simp only [List.flatMap_append, List.flatMap_singleton, List.length_append, List.length_singleton]
      exact Weak.keepN rfl (by simp [go_sem] <;> omega) (by simp [hx]) (by simp [go_sem, flat_i64.lts, i64C, hvl] <;> omega) (hw.app (by simp [go_sem, flat_i64.lts, i64C, hvl] <;> omega))
  · obtain rfl : j = c := by omega
    have e0 : (((nearL g j).length : Int) < (j : Int)) = False := eq_false (by omega)
    repeat ((simp only [go_sem, Int.reduceLT, Int.reduceLE, Int.reduceEq, Int.reduceToNat, hsol, e0]) )
    refine ret_at hq _ (.inl rfl) (by simp) ?_
    simp [go_sem]
end Go.Proofs.YtaekjojblkhfdaaGreatDoor
namespace Go.Proofs.YtaekjojblkhfdaaGreatDoor
open Go Go.Sx
theorem implIsOrder {H : List Blk} {v w : V} {l : List (Nat → Int)} {o : List Int} (h : Rd H v (rowL .u16 12) l) (h2 : Rd H w i64C o) (hl : l.length ≤ 1000000) (hlo : o.length ≤ 1000000) :
    Cal Tryz.prog 9 [v, w] H fun u H' => u = .t [.v (.bool (okB l && isOrd o l.length)), .v (.int .i64 (if okB l = true then 0 else 1))] ∧ H' = H := by
  have hsol := h.solid
  have hsol2 := h2.solid
  have hL := h.lenV (P := Tryz.prog) slTy25
  refine cal_fn 11 mixed Tryz.func9 Tryz.ntmps9 Tryz.results9 rfl rfl rfl fun hw cx hx hq => ?_
  cases e : okB l
  · repeat (first | (simp only [go_sem, Int.reduceLT, Int.reduceLE, Int.reduceEq, Int.reduceToNat, hsol, hsol2, hL, e]) | ((with_reducible refine isSK ?_); refine call_ret (validBook h (by omega)) ?_ ?_) )
    refine ret_same hq _ (.inl rfl) ?_
    simp [go_sem, e]
  · repeat (first | (simp only [go_sem, Int.reduceLT, Int.reduceLE, Int.reduceEq, Int.reduceToNat, hsol, hsol2, hL, e]) | ((with_reducible refine isSK ?_); first | refine call_ret (validBook h (by omega)) ?_ ?_ | refine call_ret (isOrderOf h2 hlo hl) ?_ ?_) )
    refine ret_same hq _ (.inl rfl) ?_
    simp [go_sem, e]
end Go.Proofs.YtaekjojblkhfdaaGreatDoor
namespace Go.Proofs.YtaekjojblkhfdaaGreatDoor
open Go Go.Sx
open Go.RowKit
theorem otI {H : List Blk} {v : V} {o : List Int} {n : Nat} (hp : PinR H) (h : Rd H v i64C o) (ho : OrdP o n) (hn : n ≤ 6) :
    Cal Tryz.prog 8 [v] H fun u H' => u = .v (.string (bstr (otT o))) ∧ H' = H := implOrderText hp.toPow h (by have := ho.1; omega)
theorem rdI {H : List Blk} {o : List Int} {n : Nat} (hp : PinR H) (ho : OrdP o n) (hn : n ≤ 6) :
    Cal Tryz.prog 7 [.v (.string (bstr (otT o)))] H fun u H' => u = .t [.s H.length 0 n (.u 0), .v (.int .i64 0)] ∧ H' = H ++ [⟨o.flatMap i64C, 2, .own 1⟩] := by
  have h8 := order_8 ho hn
  have hk := order_back ho hn
  have := implReadOrder_ok hp h8.1 (by omega) hk.1
  rwa [hk.2, ho.1] at this
theorem isI {H : List Blk} {v w : V} {b : List (Nat → Int)} {o : List Int} (h : Rd H v (rowL .u16 12) b) (h2 : Rd H w i64C o) (h12 : ∀ f ∈ b, F12 f) (hb6 : b.length ≤ 6) (ho : OrdP o b.length) :
    Cal Tryz.prog 9 [v, w] H fun u H' => u = .t [.v (.bool true), .v (.int .i64 0)] ∧ H' = H := by
  have e1 := okB_len h12 (by omega)
  have e2 : isOrd o b.length = true := isOrd_iff.2 ho
  have := implIsOrder h h2 (by omega) (by have := ho.1; omega)
  rwa [e1, e2, if_pos rfl, Bool.and_self] at this
theorem ojI {H : List Blk} {v w : V} {b : List (Nat → Int)} {o : List Int} {x : Int} (h : Rd H v (rowL .u16 12) b) (h2 : Rd H w i64C o) (h12 : ∀ f ∈ b, F12 f) (hb6 : b.length ≤ 6) (ho : OrdP o b.length) (hx : ordJ b o = x) :
    Cal Tryz.prog 10 [v, w] H fun u H' => u = .t [.v (.int .i64 x), .v (.int .i64 0)] ∧ H' = H := by
  have := implOrderJumps_ok h h2 (by omega) (by have := ho.1; omega) (fun f hf => (h12 f hf).r16) (orC_12 h12 hb6 ho)
  rwa [allJ_ordJ, hx] at this
theorem bestI {H : List Blk} {v : V} {b : List (Nat → Int)} {p : Int} {D : List Int} {x : Int} (h : Rd H v (rowL .u16 12) b) (h12 : ∀ f ∈ b, F12 f) (hb6 : b.length ≤ 6) (hb1 : 1 ≤ b.length) (hp : -1 ≤ p ∧ p < (b.length : Int)) (hD : boS b p = some (D, x)) :
    Cal Tryz.prog 11 [v, .v (.int .i64 p)] H fun u H' => u = .t [.s H.length 0 b.length (.u 0), .v (.int .i64 x), .v (.int .i64 0)] ∧ H' = H ++ [⟨D.flatMap i64C, 2, .own 1⟩] := by
  have := implBestOrder_ok (p := p) h (fun f hf => (h12 f hf).r16) (boC_0 h12 hb1 hb6 hp)
  rwa [hD] at this
theorem treeI {H : List Blk} {v : V} {b : List (Nat → Int)} {x : Int} (h : Rd H v (rowL .u16 12) b) (h12 : ∀ f ∈ b, F12 f) (hb6 : b.length ≤ 6) (hx : tbV b = x) :
    Cal Tryz.prog 13 [v] H fun u H' => u = .t [.v (.int .i64 x), .v (.int .i64 0)] ∧ H' = H := by
  have := implTreeBound_ok h (okB_len h12 (by omega)) (fun f hf => (h12 f hf).r16)
  rwa [hx] at this
theorem locI {H : List Blk} {v : V} {b : List (Nat → Int)} {M : List Int} {x : Int} (h : Rd H v (rowL .u16 12) b) (h12 : ∀ f ∈ b, F12 f) (hb6 : b.length ≤ 6) (hM : locO b (plainL b.length) = M) (hx : ordJ b M = x) :
    Cal Tryz.prog 15 [v] H fun u H' => u = .t [.s H.length 0 b.length (.u 0), .v (.int .i64 x), .v (.int .i64 0)] ∧ H' = H ++ [⟨M.flatMap i64C, 2, .own 1⟩] := by
  have := implLocalOrder_ok h (okB_len h12 (by omega)) (fun f hf => (h12 f hf).r16)
  rwa [allJ_ordJ, hM, hx] at this
theorem nearI {H : List Blk} {v : V} {b : List (Nat → Int)} {p : Int} {W : List Int} {x : Int} (h : Rd H v (rowL .u16 12) b) (h12 : ∀ f ∈ b, F12 f) (hb6 : b.length ≤ 6) (hp : 0 ≤ p ∧ p < (b.length : Int)) (hW : noL b p = W) (hx : ordJ b W = x) :
    Cal Tryz.prog 25 [v, .v (.int .i64 p)] H fun u H' => u = .t [.s H.length 0 b.length (.u 0), .v (.int .i64 x), .v (.int .i64 0)] ∧ H' = H ++ [⟨W.flatMap i64C, 2, .own 1⟩] := by
  have hc : pageC b p = 0 := by
    unfold pageC
    rw [if_pos (okB_len h12 (by omega)), if_pos (by simp; omega)]
  have hl : (noL b p).length = b.length := (noL_ord hp).1.1
  have := implNearestOrder_ok (p := p) h (fun f hf => (h12 f hf).r16) (by omega) hc
  rwa [hl, allJ_ordJ, hW, hx] at this
theorem npI {H : List Blk} {v : V} {b : List (Nat → Int)} {p c : Nat} {g : Nat → Int} {L : List Int} (h : Rd H v (rowL .u16 12) b) (h12 : ∀ f ∈ b, F12 f) (hb6 : b.length ≤ 6) (hp : p < b.length) (hc : c < b.length) (hg : EnumP (fun x => jmp b p x.toNat) b.length p g) (hL : nearL g c = L) :
    Cal Tryz.prog 27 [v, .v (.int .i64 p), .v (.int .i64 c)] H fun u H' => u = .t [.s H.length 0 c (.u 0), .v (.int .i64 0)] ∧ H' = H ++ [⟨L.flatMap i64C, 2, .own 1⟩] := by
  have h1 : pageC b (p : Int) = 0 := by
    unfold pageC
    rw [if_pos (okB_len h12 (by omega)), if_pos (by simp; omega)]
  have h2 : nrC b (p : Int) (c : Int) = 0 := by
    unfold nrC
    rw [if_pos h1, if_pos (by omega)]
  have hl := nearL_len g c
  have := implNear_ok (p := p) (c := c) h (fun f hf => (h12 f hf).r16) h2 hg
  rwa [hl, hL] at this
theorem bestS {H : List Blk} {v : V} {b : List (Nat → Int)} {p : Int} {D : List Int} {x : Int} (h : Rd H v (rowL .u16 12) b) (h12 : ∀ f ∈ b, F12 f) (hb6 : b.length ≤ 6) (hb1 : 1 ≤ b.length) (hp : -1 ≤ p ∧ p < (b.length : Int)) (hD : boS b p = some (D, x)) :
    Cal Tryz.prog 12 [v, .v (.int .i64 p)] H fun u H' => u = .t [.s H.length 0 b.length (.u 0), .v (.int .i64 x), .v (.int .i64 0)] ∧ H' = H ++ [⟨D.flatMap i64C, 2, .own 1⟩] := by
  have := specBestOrder_ok (p := p) h (fun f hf => (h12 f hf).r16) (boC_0 h12 hb1 hb6 hp)
  rwa [hD] at this
theorem treeS {H : List Blk} {v : V} {b : List (Nat → Int)} {x : Int} (h : Rd H v (rowL .u16 12) b) (h12 : ∀ f ∈ b, F12 f) (hb6 : b.length ≤ 6) (hx : tbV b = x) :
    Cal Tryz.prog 14 [v] H fun u H' => u = .t [.v (.int .i64 x), .v (.int .i64 0)] ∧ H' = H := by
  have := specTreeBound_ok h (okB_len h12 (by omega)) (fun f hf => (h12 f hf).r16)
  rwa [hx] at this
theorem locS {H : List Blk} {v : V} {b : List (Nat → Int)} {M : List Int} {x : Int} (h : Rd H v (rowL .u16 12) b) (h12 : ∀ f ∈ b, F12 f) (hb6 : b.length ≤ 6) (hM : locO b (plainL b.length) = M) (hx : ordJ b M = x) :
    Cal Tryz.prog 16 [v] H fun u H' => u = .t [.s H.length 0 b.length (.u 0), .v (.int .i64 x), .v (.int .i64 0)] ∧ H' = H ++ [⟨M.flatMap i64C, 2, .own 1⟩] := by
  have := specLocalOrder_ok h (okB_len h12 (by omega)) (fun f hf => (h12 f hf).r16)
  rwa [allJ_ordJ, hM, hx] at this
theorem nearS {H : List Blk} {v : V} {b : List (Nat → Int)} {p : Int} {W : List Int} {x : Int} (h : Rd H v (rowL .u16 12) b) (h12 : ∀ f ∈ b, F12 f) (hb6 : b.length ≤ 6) (hp : 0 ≤ p ∧ p < (b.length : Int)) (hW : noL b p = W) (hx : ordJ b W = x) :
    Cal Tryz.prog 26 [v, .v (.int .i64 p)] H fun u H' => u = .t [.s H.length 0 b.length (.u 0), .v (.int .i64 x), .v (.int .i64 0)] ∧ H' = H ++ [⟨W.flatMap i64C, 2, .own 1⟩] := by
  have hc : pageC b p = 0 := by
    unfold pageC
    rw [if_pos (okB_len h12 (by omega)), if_pos (by simp; omega)]
  have hl : (noL b p).length = b.length := (noL_ord hp).1.1
  have := specNearestOrder_ok (p := p) h (fun f hf => (h12 f hf).r16) (by omega) hc
  rwa [hl, allJ_ordJ, hW, hx] at this
theorem npS {H : List Blk} {v : V} {b : List (Nat → Int)} {p c : Nat} {g : Nat → Int} {L : List Int} (h : Rd H v (rowL .u16 12) b) (h12 : ∀ f ∈ b, F12 f) (hb6 : b.length ≤ 6) (hp : p < b.length) (hc : c < b.length) (hg : EnumP (fun x => jmp b p x.toNat) b.length p g) (hL : nearL g c = L) :
    Cal Tryz.prog 28 [v, .v (.int .i64 p), .v (.int .i64 c)] H fun u H' => u = .t [.s H.length 0 c (.u 0), .v (.int .i64 0)] ∧ H' = H ++ [⟨L.flatMap i64C, 2, .own 1⟩] := by
  have h1 : pageC b (p : Int) = 0 := by
    unfold pageC
    rw [if_pos (okB_len h12 (by omega)), if_pos (by simp; omega)]
  have h2 : nrC b (p : Int) (c : Int) = 0 := by
    unfold nrC
    rw [if_pos h1, if_pos (by omega)]
  have hl := nearL_len g c
  have := specNear_ok (p := p) (c := c) h (fun f hf => (h12 f hf).r16) h2 hg
  rwa [hl, hL] at this
theorem bestI6 {H : List Blk} {v : V} {b : List (Nat → Int)} (h : Rd H v (rowL .u16 12) b) (h12 : ∀ f ∈ b, F12 f) (hb6 : b.length ≤ 6) (h0 : b.length = 0) :
    Cal Tryz.prog 11 [v, .v (.int .i64 (-1))] H fun u H' => u = .t [.v (.slice none 0 0), .v (.int .i64 0), .v (.int .i64 6)] ∧ H' = H := by
  have e := boC_6 h12 h0
  have := implBestOrder_err (p := -1) h (by omega) (by rw [e]; decide)
  rwa [e] at this
theorem bestS6 {H : List Blk} {v : V} {b : List (Nat → Int)} (h : Rd H v (rowL .u16 12) b) (h12 : ∀ f ∈ b, F12 f) (hb6 : b.length ≤ 6) (h0 : b.length = 0) :
    Cal Tryz.prog 12 [v, .v (.int .i64 (-1))] H fun u H' => u = .t [.s H.length 0 0 (.u 0), .v (.int .i64 0), .v (.int .i64 6)] ∧ H' = H ++ [⟨[], 2, .own 1⟩] := by
  have e := boC_6 h12 h0
  have := specBestOrder_err (p := -1) h (by omega) (by rw [e]; decide)
  rwa [e] at this
theorem allI {H : List Blk} {v : V} {b : List (Nat → Int)} {x : Int} (h : Rd H v (rowL .u16 12) b) (h12 : ∀ f ∈ b, F12 f) (hb6 : b.length ≤ 6) (hx : allJ b = x) :
    Cal Tryz.prog 17 [v] H fun u H' => u = .t [.v (.int .i64 x), .v (.int .i64 0)] ∧ H' = H := by
  have := implAllJumps h h12 (okB_len h12 (by omega))
  rwa [hx] at this
theorem opI {H : List Blk} {w : V} {o P : List Int} {n : Nat} (h : Rd H w i64C o) (ho : OrdP o n) (hn : n ≤ 6) (hP : opN o n = P) :
    Cal Tryz.prog 19 [w] H fun u H' => u = .t [.s H.length 0 n (.k n), .v (.int .i64 0)] ∧ H' = H ++ [⟨P.flatMap i64C, 2, .fix⟩] := by
  have := implOpp_ok h (op_C ho hn)
  rwa [opN_len, ho.1, hP] at this
theorem opS {H : List Blk} {w : V} {o P : List Int} {n : Nat} (h : Rd H w i64C o) (hk : KU H w o) (ho : OrdP o n) (hn : n ≤ 6) (hP : opN o n = P) :
    Cal Tryz.prog 20 [w] H fun u H' => u = .t [.s H.length 0 n (.k n), .v (.int .i64 0)] ∧ H' = H ++ [⟨P.flatMap i64C, 2, .fix⟩] := by
  have := specOpp_okU h hk (op_C ho hn)
  rwa [opN_len, ho.1, hP] at this
theorem hoI {H : List Blk} {v w : V} {b : List (Nat → Int)} {o P : List Int} (h : Rd H v (rowL .u16 12) (inO b o)) (h2 : Rd H w i64C P) (h12 : ∀ f ∈ b, F12 f) (hb6 : b.length ≤ 6) (ho : OrdP o b.length) (hP : opN o b.length = P) :
    Cal Tryz.prog 21 [v, w] H fun u H' => u = .t [.s H.length 0 b.length (.u 0), .v (.int .i64 0)] ∧ H' = H ++ [⟨b.flatMap (rowL .u16 12), 50, .own 12⟩] := by
  have hl : (inO b o).length = b.length := by rw [inO_len, ho.1]
  have hPo := op_ord ho
  rw [hP] at hPo
  have := roI h h2 (inO_12 h12 o) (by omega) (by rw [hl]; exact hPo)
  have hh := op_home ho
  rw [hP] at hh
  rwa [hl, hh] at this
structure OQ (b : List (Nat → Int)) (o M : List Int) (S lo kn pl : Int) : Prop where
  hs : ordJ b o = S
  tb : tbV b = lo
  hM : locO b (plainL b.length) = M
  mo : OrdP M b.length
  mj : ordJ b M = kn
  pl_ : allJ b = pl
  kp : kn ≤ pl
  ls : lo ≤ S
theorem oQ {b : List (Nat → Int)} {o : List Int} (ho : OrdP o b.length) : OQ b o (locO b (plainL b.length)) (ordJ b o) (tbV b) (ordJ b (locO b (plainL b.length))) (allJ b) :=
  ⟨rfl, rfl, rfl, locO_ord (plain_ordL _), rfl, rfl, by rw [← plain_J]; exact locO_less _ _, tb_le ho⟩
structure OB (b : List (Nat → Int)) (D : List Int) (S lo kn few : Int) : Prop where
  hD : boS b (-1) = some (D, few)
  or_ : OrdP D b.length
  dj : ordJ b D = few
  fs : few ≤ S
  lf : lo ≤ few
  fk : few ≤ kn
  le : ∀ o, OrdP o b.length → few ≤ ordJ b o
theorem oB {b : List (Nat → Int)} {o M : List Int} {S lo kn pl : Int} (hb1 : 1 ≤ b.length) (hb6 : b.length ≤ 6) (ho : OrdP o b.length) (h : OQ b o M S lo kn pl) : ∃ D few, OB b D S lo kn few := by
  obtain ⟨D, hD, hB⟩ := best_is (p := -1) hb1 hb6 (by omega)
  have hle : ∀ o, OrdP o b.length → ordJ b D ≤ ordJ b o := fun o ho => hB.le o ho (fun h0 => by omega)
  refine ⟨D, _, hD, hB.ord, rfl, ?_, ?_, ?_, hle⟩
  · rw [← h.hs]; exact hle o ho
  · rw [← h.tb]; exact tb_le hB.ord
  · rw [← h.mj]; exact hle M h.mo
structure OF (b : List (Nat → Int)) (p : Nat) (E W : List Int) (few j m : Int) : Prop where
  lt : p < b.length
  hE : boS b (p : Int) = some (E, j)
  eo : OrdP E b.length
  e0 : E[0]? = some (p : Int)
  hW : noL b (p : Int) = W
  wo : OrdP W b.length
  wm : ordJ b W = m
  fj : few ≤ j
  jm : j ≤ m
theorem pre_first {E : List Int} {x : Int} (h : [x] <+: E) : E[0]? = some x := by
  obtain ⟨q, rfl⟩ := h
  rfl
theorem oF {b : List (Nat → Int)} {D : List Int} {S lo kn few : Int} {p : Nat} (hb6 : b.length ≤ 6) (hp : p < b.length) (h : OB b D S lo kn few) : ∃ E W j m, OF b p E W few j m := by
  obtain ⟨E, hE, hB⟩ := best_is (p := (p : Int)) (by omega) hb6 (by omega)
  have hN := noL_ord (l := b) (p := (p : Int)) (by omega)
  exact ⟨E, _, _, _, hp, hE, hB.ord, pre_first (hB.pre (by omega)), rfl, hN.1, rfl, h.le E hB.ord, hB.le _ hN.1 (fun _ => hN.2)⟩
end Go.Proofs.YtaekjojblkhfdaaGreatDoor
