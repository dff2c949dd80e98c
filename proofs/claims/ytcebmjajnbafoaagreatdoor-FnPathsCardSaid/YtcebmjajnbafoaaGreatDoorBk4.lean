/- Contracts of functions of the translated program, by the walk. -/
import Derived.Test.YtcebmjajnbafoaaGreatDoorBk3
import Derived.RangeFuncNested
import Derived.Test.YtcebmjajnbafoaaGreatDoorFp4
set_option linter.unusedVariables false
set_option linter.unusedSimpArgs false
set_option maxRecDepth 8000
set_option maxHeartbeats 16000000
namespace Go.Proofs.YtcebmjajnbafoaaGreatDoor
open Go Go.RowKit Go.Shelf Go.Proofs
attribute [local go_sem] Oper.semAt_some
set_option maxRecDepth 100000 in
set_option maxHeartbeats 2000000 in
theorem backwardIn (n b off len cap : Nat) (w : World) :
    CallsIn Fence.wide n Tryz.prog 40 #[.slice (some ⟨b, off, none⟩) len cap] w fun e W' => e = .returned (.func (.func 78) #[] #[.pointer (some ⟨w.heap.size, 0, none⟩)]) ∧ W' = w.alloc (.cells #[.slice (some ⟨b, off, none⟩) len cap] 25) := by
  refine callsIn_of_wp Tryz.func40 rfl trivial ?_ rfl
  simp only [Tryz.ntmps40, List.size_toArray, List.length_cons, List.length_nil, Nat.reduceAdd, Nat.reduceSub, Array.replicate_succ, Array.replicate_zero, List.push_toArray, List.append_toArray, List.nil_append, List.cons_append]
  gi_wp2
  refine bodyPost_ret (results_tmp rfl _ _ _) rfl ?_
  exact ⟨rfl, rfl⟩
/-- What the body keeps for the iterator. -/
def KB (N : Nat) (A B : World) : Prop := Below (N + 2) A B ∧ B.heap[N + 4]? = A.heap[N + 4]?
theorem KB.refl (N : Nat) (W : World) : KB N W W := ⟨Below.refl _ _, rfl⟩
theorem KB.trans {N : Nat} {A B C : World} (h : KB N A B) (k : KB N B C) : KB N A C := ⟨h.1.trans k.1, k.2.trans h.2⟩
/-- A key's cells, as the machine's values. -/
def kyC (a : Nat → Int) : List Value := [.int .i16 (a 0), .int .i8 (a 1), .int .i8 (a 2)]
theorem kyC_one (a : Nat → Int) : ∀ u ∈ kyC a, u.oneCell' = true := by
  intro u hu
  simp [kyC] at hu
  rcases hu with rfl | rfl | rfl <;> rfl
theorem cells_new (w : World) (cs : List Value) (t : TypeId) : ∀ j u, cs[j]? = some u → (w.alloc (.cells cs.toArray t)).cell? ((⟨w.heap.size, 0, none⟩ : Addr).add j) = some u := by
  intro j u hj
  have hh := World.alloc_heap_new w (.cells cs.toArray t)
  have h1 : (w.alloc (.cells cs.toArray t)).cell? ⟨w.heap.size, j, none⟩ = some u := by
    unfold World.cell?
    rw [hh]
    simp [hj]
  have h2 : (⟨w.heap.size, 0, none⟩ : Addr).add j = ⟨w.heap.size, j, none⟩ := by
    unfold Addr.add
    by_cases h0 : j = 0
    · subst h0; rfl
    · simp [h0]
  rw [h2]; exact h1
theorem own_new {W : World} {base : Nat} {e : TypeId} {size : Nat} {v : Value} {k : Nat} {xs : List Value} (h : W.ownsRow base e size v k xs) : v.ownBlock ≠ some W.heap.size := by
  rcases h.2 with ⟨rfl, _⟩ | ⟨g, cap, cur, rfl, _, hg, _⟩
  · simp [Value.ownBlock]
  · have := (Array.getElem?_eq_some_iff.1 hg).1
    simp [Value.ownBlock]; omega
theorem Boxed.same {W : World} {B : Nat} {t : TypeId} {v v' : Value} (h : Boxed W B t v) (h' : Boxed W B t v') : v = v' := by
  have := (show W.heap[B]? = _ from h).symm.trans h'
  simp at this; exact this
theorem infoKey : (Tryz.prog.info? 42).map (fun i => (i.zero, i.size, i.bytes)) = some (some (keyV fun _ => 0), 3, 4) := by kernel_rfl
/-- A block of cells abides what turns no cells. -/
theorem cells_own (B : Nat) (o : Obj) (ho : o.isCells = true) : Own (fun (_ : Unit) W => W.heap[B]? = some o) := fun s X Y row hs hg hrow => by
  refine (hg.block B (Array.getElem?_eq_some_iff.1 hs).1 fun e' => ?_).trans hs
  obtain ⟨o', h', hc⟩ := hrow B e'.symm
  rw [hs] at h'
  cases h'
  rw [ho] at hc; cases hc
set_option maxRecDepth 100000 in
set_option maxHeartbeats 2000000 in
theorem backIn (n : Nat) (hn : 4 ≤ n) (b off len cap : Nat) (t0 t1 : Int) (f : Nat → Nat → Int) (hlen : len ≤ 1000) (ht0 : 0 ≤ t0 ∧ t0 ≤ 200) (ht1 : 0 ≤ t1 ∧ t1 ≤ 200) (hf : ∀ j, (0 ≤ f j 0 ∧ f j 0 ≤ 200) ∧ (-24 ≤ f j 1 ∧ f j 1 ≤ 24) ∧ (-24 ≤ f j 2 ∧ f j 2 ≤ 24)) (w : World) (hb : b < w.heap.size)
    (hc0 : ∀ j, j < len → w.cell? ⟨b, off + j * 3, none⟩ = some (.int .i16 (f j 0))) (hc1 : ∀ j, j < len → w.cell? ⟨b, off + (j * 3 + 1), none⟩ = some (.int .i8 (f j 1))) (hc2 : ∀ j, j < len → w.cell? ⟨b, off + (j * 3 + 2), none⟩ = some (.int .i8 (f j 2)))
    (cv : CallsIn Fence.wide (n - 1) Tryz.prog 18 #[.slice (some ⟨b, off, none⟩) len cap] w fun e W' => e = .returned (.bool true) ∧ Below w.heap.size w W')
    (ce : ∀ W, Below w.heap.size w W → CallsIn Fence.wide (n - 1) Tryz.prog 39 #[.slice (some ⟨b, off, none⟩) len cap] W fun e W' => e = .returned (.tuple #[.int .i64 t0, .int .i64 t1]) ∧ Below W.heap.size W W') :
    CallsIn Fence.wide n Tryz.prog 9 #[.slice (some ⟨b, off, none⟩) len cap] w fun e W' => ∃ v, e = .returned (.tuple #[v, .int .i64 0]) ∧
      W'.ownsRow w.heap.size 42 3 v len ((upto (fun j => len - 1 - j) len).flatMap fun x => kyC (Go.Sx.keyF (t0 + t1 - f x 0) (f x 1) (f x 2))) ∧ Below w.heap.size w W' := by
  have h1 : 1 ≤ n := by omega
  obtain ⟨i0, hi, hz0, hz1, hz2⟩ := info_parts infoKey
  refine callsIn_of_wp_marks Tryz.func9 rfl trivial ?_ rfl
  simp only [Tryz.ntmps9, List.size_toArray, List.length_cons, List.length_nil, Nat.reduceAdd, Nat.reduceSub, Array.replicate_succ, Array.replicate_zero, List.push_toArray, List.append_toArray, List.nil_append, List.cons_append]
  gi_wp2
  refine ⟨trivial, cv.mono ?_⟩
  rintro _ W1 ⟨rfl, hB1⟩
  gi_wp2
  refine ⟨trivial, (ce W1 hB1).mono ?_⟩
  rintro _ W2 ⟨rfl, hB2⟩
  gi_wp2
  refine ⟨trivial, (backwardIn _ b off len cap _).mono ?_⟩
  rintro _ W3 ⟨rfl, rfl⟩
  gi_wp2
  have hBw : Below w.heap.size w W2 := hB1.trans (hB2.mono hB1.size)
  have hwN := hBw.size
  have b0 := ((((Boxed.new W2 2 (.int .i64 t0)).alloc (.cells #[.int .i64 t1] 2)).alloc (.cells #[] 42)).alloc (.cells #[.slice (some ⟨W2.heap.size + 2, 0, none⟩) 0 0] 25)).alloc (.cells #[.slice (some ⟨b, off, none⟩) len cap] 25)
  have b1 := (((Boxed.new (W2.alloc (.cells #[.int .i64 t0] 2)) 2 (.int .i64 t1)).alloc (.cells #[] 42)).alloc (.cells #[.slice (some ⟨W2.heap.size + 2, 0, none⟩) 0 0] 25)).alloc (.cells #[.slice (some ⟨b, off, none⟩) len cap] 25)
  have b2 : (((((W2.alloc (.cells #[.int .i64 t0] 2)).alloc (.cells #[.int .i64 t1] 2)).alloc (.cells #[] 42)).alloc (.cells #[.slice (some ⟨W2.heap.size + 2, 0, none⟩) 0 0] 25)).alloc (.cells #[.slice (some ⟨b, off, none⟩) len cap] 25)).heap[W2.heap.size + 2]? = some (.cells #[] 42) := by
    have := World.alloc_heap_new ((W2.alloc (.cells #[.int .i64 t0] 2)).alloc (.cells #[.int .i64 t1] 2)) (.cells #[] 42)
    simp only [World.size_alloc] at this
    exact (Below.heap_alloc _ _ _ (by simp)).trans ((Below.heap_alloc _ _ _ (by simp)).trans this)
  have b3 := (Boxed.new (((W2.alloc (.cells #[.int .i64 t0] 2)).alloc (.cells #[.int .i64 t1] 2)).alloc (.cells #[] 42)) 25 (.slice (some ⟨W2.heap.size + 2, 0, none⟩) 0 0)).alloc (.cells #[.slice (some ⟨b, off, none⟩) len cap] 25)
  have b4 := Boxed.new ((((W2.alloc (.cells #[.int .i64 t0] 2)).alloc (.cells #[.int .i64 t1] 2)).alloc (.cells #[] 42)).alloc (.cells #[.slice (some ⟨W2.heap.size + 2, 0, none⟩) 0 0] 25)) 25 (.slice (some ⟨b, off, none⟩) len cap)
  simp only [World.size_alloc] at b0 b1 b3 b4
  have hB0 : Below W2.heap.size W2 (((((W2.alloc (.cells #[.int .i64 t0] 2)).alloc (.cells #[.int .i64 t1] 2)).alloc (.cells #[] 42)).alloc (.cells #[.slice (some ⟨W2.heap.size + 2, 0, none⟩) 0 0] 25)).alloc (.cells #[.slice (some ⟨b, off, none⟩) len cap] 25)) := (((((Below.refl _ W2).alloc (Nat.le_refl _) _).alloc (by simp) _).alloc (by simp; omega) _).alloc (by simp; omega) _).alloc (by simp; omega) _
  have hsz : (((((W2.alloc (.cells #[.int .i64 t0] 2)).alloc (.cells #[.int .i64 t1] 2)).alloc (.cells #[] 42)).alloc (.cells #[.slice (some ⟨W2.heap.size + 2, 0, none⟩) 0 0] 25)).alloc (.cells #[.slice (some ⟨b, off, none⟩) len cap] 25)).heap.size = W2.heap.size + 5 := by simp
  have hrow0 : (((((W2.alloc (.cells #[.int .i64 t0] 2)).alloc (.cells #[.int .i64 t1] 2)).alloc (.cells #[] 42)).alloc (.cells #[.slice (some ⟨W2.heap.size + 2, 0, none⟩) 0 0] 25)).alloc (.cells #[.slice (some ⟨b, off, none⟩) len cap] 25)).ownsRow (W2.heap.size + 2) 42 3 (.slice (some ⟨W2.heap.size + 2, 0, none⟩) 0 0) 0 [] := by
    exact ⟨rfl, .inr ⟨_, 0, #[], rfl, Nat.le_refl _, b2, Nat.le_refl _, Nat.zero_le _, rfl, rfl⟩⟩
  obtain ⟨W0, hW0⟩ : ∃ W0, ((((W2.alloc (.cells #[.int .i64 t0] 2)).alloc (.cells #[.int .i64 t1] 2)).alloc (.cells #[] 42)).alloc (.cells #[.slice (some ⟨W2.heap.size + 2, 0, none⟩) 0 0] 25)).alloc (.cells #[.slice (some ⟨b, off, none⟩) len cap] 25) = W0 := ⟨_, rfl⟩
  rw [hW0] at b0 b1 b2 b3 b4 hB0 hsz hrow0 ⊢
  clear hW0
  have hBW := hBw.trans (hB0.mono hwN)
  have hbN : b < W2.heap.size := by omega
  refine wpIn_rangeFunc_ownH rfl h1 (gf := 78) (lb := #[.pointer (some ⟨W2.heap.size + 4, 0, none⟩)]) rfl trivial (enters_of Tryz.func78 (by kernel_rfl) rfl)
    (back_stops (n - 1) (by omega) (W2.heap.size + 4) b off len cap f (by omega) (KB W2.heap.size) (KB.refl _) KB.trans (fun h o => h.1.cell (p := ⟨b, o, none⟩) (by show b < W2.heap.size + 2; omega)) (fun h => by simp only [World.cell?, h.2]) W0 (by omega) (by omega) b4.cell
      (fun j hj => (hBW.cell (p := ⟨b, off + j * 3, none⟩) hb).trans (hc0 j hj)) (fun j hj => (hBW.cell (p := ⟨b, off + (j * 3 + 1), none⟩) hb).trans (hc1 j hj)) (fun j hj => (hBW.cell (p := ⟨b, off + (j * 3 + 2), none⟩) hb).trans (hc2 j hj)))
    KB.trans (fun W l o o' hl ho hc hw => ⟨belowK_b (w := W0) (by omega) W l o o' hl ho hc hw, World.putObj_heap_other (by omega)⟩) (Below.refl _ _) (fun _ => rfl)
    (fun pre W => ((∃ v, Boxed W (W2.heap.size + 3) 25 v ∧ W.ownsRow (W2.heap.size + 2) 42 3 v pre.length (pre.flatMap fun x => kyC (Go.Sx.keyF (t0 + t1 - f x 0) (f x 1) (f x 2))) ∧ True) ∧ Boxed W (W2.heap.size + 4) 25 (.slice (some ⟨b, off, none⟩) len cap)) ∧ Below (W2.heap.size + 2) W0 W)
    (fun _ _ _ => False)
    (OwnFrom.and (OwnFrom.and (Own.from (holdsRow_own (W2.heap.size + 2) (W2.heap.size + 3) 25 42 3 (fun pre : List Nat => pre.length) (fun pre => pre.flatMap fun x => kyC (Go.Sx.keyF (t0 + t1 - f x 0) (f x 1) (f x 2))) (fun _ _ => True)) _) (Own.from (boxed_own _ _ _) _)) (ownFrom_below (by omega) (by omega)))
    (fun _ _ _ _ _ hs _ _ => hs)
    ⟨⟨⟨_, b3, hrow0, trivial⟩, b4⟩, Below.refl _ _⟩
    (fun x a' W => ∃ p, (W.heap[p]? = some (.cells (kyC (f x)).toArray 42) ∧ ∃ v, Boxed W (W2.heap.size + 3) 25 v ∧ v.ownBlock ≠ some p) ∧ a' = { tmps := #[.slice (some ⟨b, off, none⟩) len cap, undef, .slice none 0 0, .int .i64 0, .pointer (some ⟨W2.heap.size, 0, none⟩), .pointer (some ⟨W2.heap.size + 1, 0, none⟩), .pointer (some ⟨W2.heap.size + 3, 0, none⟩), undef, .pointer (some ⟨p, 0, none⟩), .slice (some ⟨b, off, none⟩) len cap, .bool true, .bool false, .tuple #[.int .i64 t0, .int .i64 t1], .slice (some ⟨b, off, none⟩) len cap, .tuple #[.int .i64 t0, .int .i64 t1], .int .i64 t0, .int .i64 t1, .slice (some ⟨W2.heap.size + 2, 0, none⟩) 0 0, .slice (some ⟨b, off, none⟩) len cap, .func (.func 78) #[] #[.pointer (some ⟨W2.heap.size + 4, 0, none⟩)], .int .i64 x, keyV (f x), undef, undef, undef, undef, undef, undef, undef, undef, undef, undef, undef, undef, undef, undef, undef, undef, undef, undef], defers := [] })
    (fun x a' _ X Y row hs hg hr => by obtain ⟨p, ⟨e1, v, e3, e4⟩, e2⟩ := hs; exact ⟨p, ⟨cells_own p _ rfl () X Y row e1 hg (fun r e => (hr r e).2), v, boxed_own (W2.heap.size + 3) 25 (fun (_ : Unit) => v) () X Y row e3 hg (fun r e => (hr r e).2), e4⟩, e2⟩)
    ?assign ?body ?done ?stop
  case assign =>
    rintro l pre x W K ⟨⟨⟨v, hv, hrow, _⟩, h4⟩, hB⟩ hK
    have hs := hB.size
    unfold keyV
    gi_wp2
    exact hK _ _ ((KeepsOthers.alloc _ _).from _) ⟨(Below.refl _ W).alloc (by omega) _, Below.heap_alloc W _ _ (by omega)⟩ ⟨⟨⟨v, hv.alloc _, hrow.alloc _, trivial⟩, h4.alloc _⟩, hB.alloc (by omega) _⟩ ⟨W.heap.size, ⟨World.alloc_heap_new W _, v, hv.alloc _, own_new hrow⟩, rfl⟩
  case body =>
    rintro l pre x a' W hl ⟨r, hr⟩ ⟨⟨⟨v, hv, hrow, _⟩, h4⟩, hB⟩ ⟨p, ⟨hp, v2, hv2, hvp⟩, rfl⟩ hlt
    obtain rfl := Boxed.same hv hv2
    have hs := hB.size
    have hc := hv.cell
    have d0 := (hB.cell (p := ⟨W2.heap.size, 0, none⟩) (show W2.heap.size < W2.heap.size + 2 by omega)).trans b0.cell
    have d1 := (hB.cell (p := ⟨W2.heap.size + 1, 0, none⟩) (show W2.heap.size + 1 < W2.heap.size + 2 by omega)).trans b1.cell
    have k0 : W.cell? ⟨p, 0, none⟩ = some (.int .i16 (f x 0)) := by simp [World.cell?, hp, kyC]
    have k1 : W.cell? ⟨p, 1, none⟩ = some (.int .i8 (f x 1)) := by simp [World.cell?, hp, kyC]
    have k2 : W.cell? ⟨p, 2, none⟩ = some (.int .i8 (f x 2)) := by simp [World.cell?, hp, kyC]
    have hfx := hf x
    obtain ⟨S, hSd⟩ : ∃ S : World → Prop, S = fun W' => (W'.cell? ⟨W2.heap.size + 3, 0, none⟩ = some v ∧ W'.cell? ⟨W2.heap.size, 0, none⟩ = some (.int .i64 t0) ∧ W'.cell? ⟨W2.heap.size + 1, 0, none⟩ = some (.int .i64 t1)) ∧ W'.cell? ⟨p, 0, none⟩ = some (.int .i16 (f x 0)) ∧ W'.cell? ⟨p, 1, none⟩ = some (.int .i8 (f x 1)) ∧ W'.cell? ⟨p, 2, none⟩ = some (.int .i8 (f x 2)) := ⟨_, rfl⟩
    have w1 : IntKind.i64.wrap (t0 + t1) = t0 + t1 := by rw [IntKind.wrap_i64]; omega
    have w2 : IntKind.i64.wrap (f x 0) = f x 0 := by rw [IntKind.wrap_i64]; omega
    have w3 : IntKind.i64.wrap (t0 + t1 - f x 0) = t0 + t1 - f x 0 := by rw [IntKind.wrap_i64]; omega
    have w4 : IntKind.i64.wrap (f x 1) = f x 1 := by rw [IntKind.wrap_i64]; omega
    have w5 : IntKind.i64.wrap (f x 2) = f x 2 := by rw [IntKind.wrap_i64]; omega
    gi_wp2
    refine regionIn_G (S := S) 17 (by kernel_rfl) (noDefer (by kernel_rfl)) (fun ⟨_, _, h⟩ => h) ?_
    obtain ⟨WD, hWD⟩ : ∃ WD, WD = { W with drawn := W.drawn + 1 } := ⟨_, rfl⟩
    have hS : S WD := by rw [hSd, hWD]; exact ⟨⟨hc, d0, d1⟩, k0, k1, k2⟩
    rw [← hWD]
    refine takeG (i := 0) (v := v) { tmps := #[.slice (some ⟨b, off, none⟩) len cap, undef, .slice none 0 0, .int .i64 0, .pointer (some ⟨W2.heap.size, 0, none⟩), .pointer (some ⟨W2.heap.size + 1, 0, none⟩), .pointer (some ⟨W2.heap.size + 3, 0, none⟩), undef, .pointer (some ⟨p, 0, none⟩), .slice (some ⟨b, off, none⟩) len cap, .bool true, .bool false, .tuple #[.int .i64 t0, .int .i64 t1], .slice (some ⟨b, off, none⟩) len cap, .tuple #[.int .i64 t0, .int .i64 t1], .int .i64 t0, .int .i64 t1, .slice (some ⟨W2.heap.size + 2, 0, none⟩) 0 0, .slice (some ⟨b, off, none⟩) len cap, .func (.func 78) #[] #[.pointer (some ⟨W2.heap.size + 4, 0, none⟩)], .int .i64 x, keyV (f x), v, undef, undef, undef, undef, undef, undef, undef, undef, undef, undef, undef, undef, undef, undef, undef, undef, undef], defers := [] } rfl (by kernel_rfl) (by kernel_rfl) (by kernel_rfl) (by kernel_rfl) (fun _ _ _ h => h) (by rfl) hS (by rfl) ?_ ?_
    · intro W' hSw
      rw [hSd] at hSw
      obtain ⟨⟨q0, q1, q2⟩, q3, q4, q5⟩ := hSw
      go_simp
    refine takeG (i := 1) (v := .int .i64 (t0)) { tmps := #[.slice (some ⟨b, off, none⟩) len cap, undef, .slice none 0 0, .int .i64 0, .pointer (some ⟨W2.heap.size, 0, none⟩), .pointer (some ⟨W2.heap.size + 1, 0, none⟩), .pointer (some ⟨W2.heap.size + 3, 0, none⟩), undef, .pointer (some ⟨p, 0, none⟩), .slice (some ⟨b, off, none⟩) len cap, .bool true, .bool false, .tuple #[.int .i64 t0, .int .i64 t1], .slice (some ⟨b, off, none⟩) len cap, .tuple #[.int .i64 t0, .int .i64 t1], .int .i64 t0, .int .i64 t1, .slice (some ⟨W2.heap.size + 2, 0, none⟩) 0 0, .slice (some ⟨b, off, none⟩) len cap, .func (.func 78) #[] #[.pointer (some ⟨W2.heap.size + 4, 0, none⟩)], .int .i64 x, keyV (f x), v, .int .i64 (t0), undef, undef, undef, undef, undef, undef, undef, undef, undef, undef, undef, undef, undef, undef, undef, undef], defers := [] } rfl (by kernel_rfl) (by kernel_rfl) (by kernel_rfl) (by kernel_rfl) (fun _ _ _ h => h) (by rfl) hS (by rfl) ?_ ?_
    · intro W' hSw
      rw [hSd] at hSw
      obtain ⟨⟨q0, q1, q2⟩, q3, q4, q5⟩ := hSw
      go_simp
    refine takeG (i := 2) (v := .int .i64 (t1)) { tmps := #[.slice (some ⟨b, off, none⟩) len cap, undef, .slice none 0 0, .int .i64 0, .pointer (some ⟨W2.heap.size, 0, none⟩), .pointer (some ⟨W2.heap.size + 1, 0, none⟩), .pointer (some ⟨W2.heap.size + 3, 0, none⟩), undef, .pointer (some ⟨p, 0, none⟩), .slice (some ⟨b, off, none⟩) len cap, .bool true, .bool false, .tuple #[.int .i64 t0, .int .i64 t1], .slice (some ⟨b, off, none⟩) len cap, .tuple #[.int .i64 t0, .int .i64 t1], .int .i64 t0, .int .i64 t1, .slice (some ⟨W2.heap.size + 2, 0, none⟩) 0 0, .slice (some ⟨b, off, none⟩) len cap, .func (.func 78) #[] #[.pointer (some ⟨W2.heap.size + 4, 0, none⟩)], .int .i64 x, keyV (f x), v, .int .i64 (t0), .int .i64 (t1), undef, undef, undef, undef, undef, undef, undef, undef, undef, undef, undef, undef, undef, undef, undef], defers := [] } rfl (by kernel_rfl) (by kernel_rfl) (by kernel_rfl) (by kernel_rfl) (fun _ _ _ h => h) (by rfl) hS (by rfl) ?_ ?_
    · intro W' hSw
      rw [hSd] at hSw
      obtain ⟨⟨q0, q1, q2⟩, q3, q4, q5⟩ := hSw
      go_simp
    refine takeG (i := 3) (v := .int .i64 (t0 + t1)) { tmps := #[.slice (some ⟨b, off, none⟩) len cap, undef, .slice none 0 0, .int .i64 0, .pointer (some ⟨W2.heap.size, 0, none⟩), .pointer (some ⟨W2.heap.size + 1, 0, none⟩), .pointer (some ⟨W2.heap.size + 3, 0, none⟩), undef, .pointer (some ⟨p, 0, none⟩), .slice (some ⟨b, off, none⟩) len cap, .bool true, .bool false, .tuple #[.int .i64 t0, .int .i64 t1], .slice (some ⟨b, off, none⟩) len cap, .tuple #[.int .i64 t0, .int .i64 t1], .int .i64 t0, .int .i64 t1, .slice (some ⟨W2.heap.size + 2, 0, none⟩) 0 0, .slice (some ⟨b, off, none⟩) len cap, .func (.func 78) #[] #[.pointer (some ⟨W2.heap.size + 4, 0, none⟩)], .int .i64 x, keyV (f x), v, .int .i64 (t0), .int .i64 (t1), .int .i64 (t0 + t1), undef, undef, undef, undef, undef, undef, undef, undef, undef, undef, undef, undef, undef, undef], defers := [] } rfl (by kernel_rfl) (by kernel_rfl) (by kernel_rfl) (by kernel_rfl) (fun _ _ _ h => h) (by rfl) hS (by rfl) ?_ ?_
    · intro W' hSw
      rw [hSd] at hSw
      obtain ⟨⟨q0, q1, q2⟩, q3, q4, q5⟩ := hSw
      go_simp
    refine takeG (i := 4) (v := .pointer (some ⟨p, 0, none⟩)) { tmps := #[.slice (some ⟨b, off, none⟩) len cap, undef, .slice none 0 0, .int .i64 0, .pointer (some ⟨W2.heap.size, 0, none⟩), .pointer (some ⟨W2.heap.size + 1, 0, none⟩), .pointer (some ⟨W2.heap.size + 3, 0, none⟩), undef, .pointer (some ⟨p, 0, none⟩), .slice (some ⟨b, off, none⟩) len cap, .bool true, .bool false, .tuple #[.int .i64 t0, .int .i64 t1], .slice (some ⟨b, off, none⟩) len cap, .tuple #[.int .i64 t0, .int .i64 t1], .int .i64 t0, .int .i64 t1, .slice (some ⟨W2.heap.size + 2, 0, none⟩) 0 0, .slice (some ⟨b, off, none⟩) len cap, .func (.func 78) #[] #[.pointer (some ⟨W2.heap.size + 4, 0, none⟩)], .int .i64 x, keyV (f x), v, .int .i64 (t0), .int .i64 (t1), .int .i64 (t0 + t1), .pointer (some ⟨p, 0, none⟩), undef, undef, undef, undef, undef, undef, undef, undef, undef, undef, undef, undef, undef], defers := [] } rfl (by kernel_rfl) (by kernel_rfl) (by kernel_rfl) (by kernel_rfl) (fun _ _ _ h => h) (by rfl) hS (by rfl) ?_ ?_
    · intro W' hSw
      rw [hSd] at hSw
      obtain ⟨⟨q0, q1, q2⟩, q3, q4, q5⟩ := hSw
      go_simp
    refine takeG (i := 5) (v := .int .i16 (f x 0)) { tmps := #[.slice (some ⟨b, off, none⟩) len cap, undef, .slice none 0 0, .int .i64 0, .pointer (some ⟨W2.heap.size, 0, none⟩), .pointer (some ⟨W2.heap.size + 1, 0, none⟩), .pointer (some ⟨W2.heap.size + 3, 0, none⟩), undef, .pointer (some ⟨p, 0, none⟩), .slice (some ⟨b, off, none⟩) len cap, .bool true, .bool false, .tuple #[.int .i64 t0, .int .i64 t1], .slice (some ⟨b, off, none⟩) len cap, .tuple #[.int .i64 t0, .int .i64 t1], .int .i64 t0, .int .i64 t1, .slice (some ⟨W2.heap.size + 2, 0, none⟩) 0 0, .slice (some ⟨b, off, none⟩) len cap, .func (.func 78) #[] #[.pointer (some ⟨W2.heap.size + 4, 0, none⟩)], .int .i64 x, keyV (f x), v, .int .i64 (t0), .int .i64 (t1), .int .i64 (t0 + t1), .pointer (some ⟨p, 0, none⟩), .int .i16 (f x 0), undef, undef, undef, undef, undef, undef, undef, undef, undef, undef, undef, undef], defers := [] } rfl (by kernel_rfl) (by kernel_rfl) (by kernel_rfl) (by kernel_rfl) (fun _ _ _ h => h) (by rfl) hS (by rfl) ?_ ?_
    · intro W' hSw
      rw [hSd] at hSw
      obtain ⟨⟨q0, q1, q2⟩, q3, q4, q5⟩ := hSw
      go_simp
    refine takeG (i := 6) (v := .int .i64 (f x 0)) { tmps := #[.slice (some ⟨b, off, none⟩) len cap, undef, .slice none 0 0, .int .i64 0, .pointer (some ⟨W2.heap.size, 0, none⟩), .pointer (some ⟨W2.heap.size + 1, 0, none⟩), .pointer (some ⟨W2.heap.size + 3, 0, none⟩), undef, .pointer (some ⟨p, 0, none⟩), .slice (some ⟨b, off, none⟩) len cap, .bool true, .bool false, .tuple #[.int .i64 t0, .int .i64 t1], .slice (some ⟨b, off, none⟩) len cap, .tuple #[.int .i64 t0, .int .i64 t1], .int .i64 t0, .int .i64 t1, .slice (some ⟨W2.heap.size + 2, 0, none⟩) 0 0, .slice (some ⟨b, off, none⟩) len cap, .func (.func 78) #[] #[.pointer (some ⟨W2.heap.size + 4, 0, none⟩)], .int .i64 x, keyV (f x), v, .int .i64 (t0), .int .i64 (t1), .int .i64 (t0 + t1), .pointer (some ⟨p, 0, none⟩), .int .i16 (f x 0), .int .i64 (f x 0), undef, undef, undef, undef, undef, undef, undef, undef, undef, undef, undef], defers := [] } rfl (by kernel_rfl) (by kernel_rfl) (by kernel_rfl) (by kernel_rfl) (fun _ _ _ h => h) (by rfl) hS (by rfl) ?_ ?_
    · intro W' hSw
      rw [hSd] at hSw
      obtain ⟨⟨q0, q1, q2⟩, q3, q4, q5⟩ := hSw
      go_simp
    refine takeG (i := 7) (v := .int .i64 (t0 + t1 - f x 0)) { tmps := #[.slice (some ⟨b, off, none⟩) len cap, undef, .slice none 0 0, .int .i64 0, .pointer (some ⟨W2.heap.size, 0, none⟩), .pointer (some ⟨W2.heap.size + 1, 0, none⟩), .pointer (some ⟨W2.heap.size + 3, 0, none⟩), undef, .pointer (some ⟨p, 0, none⟩), .slice (some ⟨b, off, none⟩) len cap, .bool true, .bool false, .tuple #[.int .i64 t0, .int .i64 t1], .slice (some ⟨b, off, none⟩) len cap, .tuple #[.int .i64 t0, .int .i64 t1], .int .i64 t0, .int .i64 t1, .slice (some ⟨W2.heap.size + 2, 0, none⟩) 0 0, .slice (some ⟨b, off, none⟩) len cap, .func (.func 78) #[] #[.pointer (some ⟨W2.heap.size + 4, 0, none⟩)], .int .i64 x, keyV (f x), v, .int .i64 (t0), .int .i64 (t1), .int .i64 (t0 + t1), .pointer (some ⟨p, 0, none⟩), .int .i16 (f x 0), .int .i64 (f x 0), .int .i64 (t0 + t1 - f x 0), undef, undef, undef, undef, undef, undef, undef, undef, undef, undef], defers := [] } rfl (by kernel_rfl) (by kernel_rfl) (by kernel_rfl) (by kernel_rfl) (fun _ _ _ h => h) (by rfl) hS (by rfl) ?_ ?_
    · intro W' hSw
      rw [hSd] at hSw
      obtain ⟨⟨q0, q1, q2⟩, q3, q4, q5⟩ := hSw
      go_simp
    refine takeG (i := 8) (v := .pointer (some ⟨p, 1, none⟩)) { tmps := #[.slice (some ⟨b, off, none⟩) len cap, undef, .slice none 0 0, .int .i64 0, .pointer (some ⟨W2.heap.size, 0, none⟩), .pointer (some ⟨W2.heap.size + 1, 0, none⟩), .pointer (some ⟨W2.heap.size + 3, 0, none⟩), undef, .pointer (some ⟨p, 0, none⟩), .slice (some ⟨b, off, none⟩) len cap, .bool true, .bool false, .tuple #[.int .i64 t0, .int .i64 t1], .slice (some ⟨b, off, none⟩) len cap, .tuple #[.int .i64 t0, .int .i64 t1], .int .i64 t0, .int .i64 t1, .slice (some ⟨W2.heap.size + 2, 0, none⟩) 0 0, .slice (some ⟨b, off, none⟩) len cap, .func (.func 78) #[] #[.pointer (some ⟨W2.heap.size + 4, 0, none⟩)], .int .i64 x, keyV (f x), v, .int .i64 (t0), .int .i64 (t1), .int .i64 (t0 + t1), .pointer (some ⟨p, 0, none⟩), .int .i16 (f x 0), .int .i64 (f x 0), .int .i64 (t0 + t1 - f x 0), .pointer (some ⟨p, 1, none⟩), undef, undef, undef, undef, undef, undef, undef, undef, undef], defers := [] } rfl (by kernel_rfl) (by kernel_rfl) (by kernel_rfl) (by kernel_rfl) (fun _ _ _ h => h) (by rfl) hS (by rfl) ?_ ?_
    · intro W' hSw
      rw [hSd] at hSw
      obtain ⟨⟨q0, q1, q2⟩, q3, q4, q5⟩ := hSw
      go_simp
    refine takeG (i := 9) (v := .int .i8 (f x 1)) { tmps := #[.slice (some ⟨b, off, none⟩) len cap, undef, .slice none 0 0, .int .i64 0, .pointer (some ⟨W2.heap.size, 0, none⟩), .pointer (some ⟨W2.heap.size + 1, 0, none⟩), .pointer (some ⟨W2.heap.size + 3, 0, none⟩), undef, .pointer (some ⟨p, 0, none⟩), .slice (some ⟨b, off, none⟩) len cap, .bool true, .bool false, .tuple #[.int .i64 t0, .int .i64 t1], .slice (some ⟨b, off, none⟩) len cap, .tuple #[.int .i64 t0, .int .i64 t1], .int .i64 t0, .int .i64 t1, .slice (some ⟨W2.heap.size + 2, 0, none⟩) 0 0, .slice (some ⟨b, off, none⟩) len cap, .func (.func 78) #[] #[.pointer (some ⟨W2.heap.size + 4, 0, none⟩)], .int .i64 x, keyV (f x), v, .int .i64 (t0), .int .i64 (t1), .int .i64 (t0 + t1), .pointer (some ⟨p, 0, none⟩), .int .i16 (f x 0), .int .i64 (f x 0), .int .i64 (t0 + t1 - f x 0), .pointer (some ⟨p, 1, none⟩), .int .i8 (f x 1), undef, undef, undef, undef, undef, undef, undef, undef], defers := [] } rfl (by kernel_rfl) (by kernel_rfl) (by kernel_rfl) (by kernel_rfl) (fun _ _ _ h => h) (by rfl) hS (by rfl) ?_ ?_
    · intro W' hSw
      rw [hSd] at hSw
      obtain ⟨⟨q0, q1, q2⟩, q3, q4, q5⟩ := hSw
      go_simp
    refine takeG (i := 10) (v := .int .i64 (f x 1)) { tmps := #[.slice (some ⟨b, off, none⟩) len cap, undef, .slice none 0 0, .int .i64 0, .pointer (some ⟨W2.heap.size, 0, none⟩), .pointer (some ⟨W2.heap.size + 1, 0, none⟩), .pointer (some ⟨W2.heap.size + 3, 0, none⟩), undef, .pointer (some ⟨p, 0, none⟩), .slice (some ⟨b, off, none⟩) len cap, .bool true, .bool false, .tuple #[.int .i64 t0, .int .i64 t1], .slice (some ⟨b, off, none⟩) len cap, .tuple #[.int .i64 t0, .int .i64 t1], .int .i64 t0, .int .i64 t1, .slice (some ⟨W2.heap.size + 2, 0, none⟩) 0 0, .slice (some ⟨b, off, none⟩) len cap, .func (.func 78) #[] #[.pointer (some ⟨W2.heap.size + 4, 0, none⟩)], .int .i64 x, keyV (f x), v, .int .i64 (t0), .int .i64 (t1), .int .i64 (t0 + t1), .pointer (some ⟨p, 0, none⟩), .int .i16 (f x 0), .int .i64 (f x 0), .int .i64 (t0 + t1 - f x 0), .pointer (some ⟨p, 1, none⟩), .int .i8 (f x 1), .int .i64 (f x 1), undef, undef, undef, undef, undef, undef, undef], defers := [] } rfl (by kernel_rfl) (by kernel_rfl) (by kernel_rfl) (by kernel_rfl) (fun _ _ _ h => h) (by rfl) hS (by rfl) ?_ ?_
    · intro W' hSw
      rw [hSd] at hSw
      obtain ⟨⟨q0, q1, q2⟩, q3, q4, q5⟩ := hSw
      go_simp
    refine takeG (i := 11) (v := .pointer (some ⟨p, 2, none⟩)) { tmps := #[.slice (some ⟨b, off, none⟩) len cap, undef, .slice none 0 0, .int .i64 0, .pointer (some ⟨W2.heap.size, 0, none⟩), .pointer (some ⟨W2.heap.size + 1, 0, none⟩), .pointer (some ⟨W2.heap.size + 3, 0, none⟩), undef, .pointer (some ⟨p, 0, none⟩), .slice (some ⟨b, off, none⟩) len cap, .bool true, .bool false, .tuple #[.int .i64 t0, .int .i64 t1], .slice (some ⟨b, off, none⟩) len cap, .tuple #[.int .i64 t0, .int .i64 t1], .int .i64 t0, .int .i64 t1, .slice (some ⟨W2.heap.size + 2, 0, none⟩) 0 0, .slice (some ⟨b, off, none⟩) len cap, .func (.func 78) #[] #[.pointer (some ⟨W2.heap.size + 4, 0, none⟩)], .int .i64 x, keyV (f x), v, .int .i64 (t0), .int .i64 (t1), .int .i64 (t0 + t1), .pointer (some ⟨p, 0, none⟩), .int .i16 (f x 0), .int .i64 (f x 0), .int .i64 (t0 + t1 - f x 0), .pointer (some ⟨p, 1, none⟩), .int .i8 (f x 1), .int .i64 (f x 1), .pointer (some ⟨p, 2, none⟩), undef, undef, undef, undef, undef, undef], defers := [] } rfl (by kernel_rfl) (by kernel_rfl) (by kernel_rfl) (by kernel_rfl) (fun _ _ _ h => h) (by rfl) hS (by rfl) ?_ ?_
    · intro W' hSw
      rw [hSd] at hSw
      obtain ⟨⟨q0, q1, q2⟩, q3, q4, q5⟩ := hSw
      go_simp
    refine takeG (i := 12) (v := .int .i8 (f x 2)) { tmps := #[.slice (some ⟨b, off, none⟩) len cap, undef, .slice none 0 0, .int .i64 0, .pointer (some ⟨W2.heap.size, 0, none⟩), .pointer (some ⟨W2.heap.size + 1, 0, none⟩), .pointer (some ⟨W2.heap.size + 3, 0, none⟩), undef, .pointer (some ⟨p, 0, none⟩), .slice (some ⟨b, off, none⟩) len cap, .bool true, .bool false, .tuple #[.int .i64 t0, .int .i64 t1], .slice (some ⟨b, off, none⟩) len cap, .tuple #[.int .i64 t0, .int .i64 t1], .int .i64 t0, .int .i64 t1, .slice (some ⟨W2.heap.size + 2, 0, none⟩) 0 0, .slice (some ⟨b, off, none⟩) len cap, .func (.func 78) #[] #[.pointer (some ⟨W2.heap.size + 4, 0, none⟩)], .int .i64 x, keyV (f x), v, .int .i64 (t0), .int .i64 (t1), .int .i64 (t0 + t1), .pointer (some ⟨p, 0, none⟩), .int .i16 (f x 0), .int .i64 (f x 0), .int .i64 (t0 + t1 - f x 0), .pointer (some ⟨p, 1, none⟩), .int .i8 (f x 1), .int .i64 (f x 1), .pointer (some ⟨p, 2, none⟩), .int .i8 (f x 2), undef, undef, undef, undef, undef], defers := [] } rfl (by kernel_rfl) (by kernel_rfl) (by kernel_rfl) (by kernel_rfl) (fun _ _ _ h => h) (by rfl) hS (by rfl) ?_ ?_
    · intro W' hSw
      rw [hSd] at hSw
      obtain ⟨⟨q0, q1, q2⟩, q3, q4, q5⟩ := hSw
      go_simp
    refine takeG (i := 13) (v := .int .i64 (f x 2)) { tmps := #[.slice (some ⟨b, off, none⟩) len cap, undef, .slice none 0 0, .int .i64 0, .pointer (some ⟨W2.heap.size, 0, none⟩), .pointer (some ⟨W2.heap.size + 1, 0, none⟩), .pointer (some ⟨W2.heap.size + 3, 0, none⟩), undef, .pointer (some ⟨p, 0, none⟩), .slice (some ⟨b, off, none⟩) len cap, .bool true, .bool false, .tuple #[.int .i64 t0, .int .i64 t1], .slice (some ⟨b, off, none⟩) len cap, .tuple #[.int .i64 t0, .int .i64 t1], .int .i64 t0, .int .i64 t1, .slice (some ⟨W2.heap.size + 2, 0, none⟩) 0 0, .slice (some ⟨b, off, none⟩) len cap, .func (.func 78) #[] #[.pointer (some ⟨W2.heap.size + 4, 0, none⟩)], .int .i64 x, keyV (f x), v, .int .i64 (t0), .int .i64 (t1), .int .i64 (t0 + t1), .pointer (some ⟨p, 0, none⟩), .int .i16 (f x 0), .int .i64 (f x 0), .int .i64 (t0 + t1 - f x 0), .pointer (some ⟨p, 1, none⟩), .int .i8 (f x 1), .int .i64 (f x 1), .pointer (some ⟨p, 2, none⟩), .int .i8 (f x 2), .int .i64 (f x 2), undef, undef, undef, undef], defers := [] } rfl (by kernel_rfl) (by kernel_rfl) (by kernel_rfl) (by kernel_rfl) (fun _ _ _ h => h) (by rfl) hS (by rfl) ?_ ?_
    · intro W' hSw
      rw [hSd] at hSw
      obtain ⟨⟨q0, q1, q2⟩, q3, q4, q5⟩ := hSw
      go_simp
    have hBD : Below W.heap.size W WD := by rw [hWD]; exact ⟨rfl, rfl, rfl, Nat.le_refl _, fun _ _ => rfl⟩
    have hzD : WD.heap.size = W.heap.size := by rw [hWD]
    have hS2 : ∀ W', Below W.heap.size WD W' → S W' := fun W' hB' => by
      have hp' := (Array.getElem?_eq_some_iff.1 hp).1
      have h3' := hv.lt
      rw [hSd] at hS ⊢
      obtain ⟨⟨q0, q1, q2⟩, q3, q4, q5⟩ := hS
      exact ⟨⟨(hB'.cell (p := ⟨W2.heap.size + 3, 0, none⟩) h3').trans q0, (hB'.cell (p := ⟨W2.heap.size, 0, none⟩) (show W2.heap.size < W.heap.size by omega)).trans q1, (hB'.cell (p := ⟨W2.heap.size + 1, 0, none⟩) (show W2.heap.size + 1 < W.heap.size by omega)).trans q2⟩, (hB'.cell (p := ⟨p, 0, none⟩) hp').trans q3, (hB'.cell (p := ⟨p, 1, none⟩) hp').trans q4, (hB'.cell (p := ⟨p, 2, none⟩) hp').trans q5⟩
    have hSi : ∀ W' : World, (∀ k, (k = W2.heap.size ∨ k = W2.heap.size + 1 ∨ k = W2.heap.size + 3 ∨ k = p) → W'.heap[k]? = W.heap[k]?) → S W' := fun W' hh => by
      have hcl : ∀ k o, (k = W2.heap.size ∨ k = W2.heap.size + 1 ∨ k = W2.heap.size + 3 ∨ k = p) → W'.cell? ⟨k, o, none⟩ = W.cell? ⟨k, o, none⟩ := fun k o hk => by
        unfold World.cell?
        dsimp only
        rw [hh k hk]
      rw [hSd]
      exact ⟨⟨(hcl _ _ (by simp)).trans hc, (hcl _ _ (by simp)).trans d0, (hcl _ _ (by simp)).trans d1⟩, (hcl _ _ (by simp)).trans k0, (hcl _ _ (by simp)).trans k1, (hcl _ _ (by simp)).trans k2⟩
    have hp' := (Array.getElem?_eq_some_iff.1 hp).1
    have h3' := hv.lt
    clear hSd hWD
    refine oneG (i := 14) rfl (by kernel_rfl) (by rfl) ?_
    go_simp
    refine ((callsIn_wide (n := 1)).1 (keyAtIn (t := t0 + t1 - f x 0) (x := f x 1) (y := f x 2) (by omega) (by omega) (by omega))).mono ?_
    rintro _ W3 ⟨rfl, hB3⟩
    dsimp only
    refine ⟨hS2 W3 (hzD ▸ hB3), ?_⟩
    have hB3W : Below W.heap.size W W3 := hBD.trans (hzD ▸ hB3)
    refine oneG (i := 15) rfl (by kernel_rfl) (by rfl) ?_
    unfold keyV
    go_simp
    refine ⟨hS2 _ ((hzD ▸ hB3 : Below W.heap.size WD W3).alloc (by have := hB3.size; omega) _), ?_⟩
    have hg3 : W.grownBy W3 none := ⟨hB3W.os, hB3W.tape, hB3W.output, hB3W.size, fun k hk _ => hB3W.block k hk⟩
    have hrow3 := hrow.kept hg3 (by
      rcases hrow.2 with ⟨rfl, _⟩ | ⟨g, cap, cur, rfl, _⟩
      · exact .inl rfl
      · exact .inr (by simp [Value.ownBlock]))
    have hv3 := hv.kept hg3 (by simp)
    have h43 := h4.kept hg3 (by simp)
    have hW3 := hB3W.size
    refine oneG (i := 16) rfl (by kernel_rfl) (by rfl) ?_
    refine wp_append_own (.tmp 22) (.tmp 37) 25 rfl (W2.heap.size + 2) 42 i0 (keyV fun _ => 0) 3 4 Tryz.underlying25 hi hz0 hz1 hz2 rfl (by decide) v pre.length _ rfl (hrow3.alloc _) ⟨W3.heap.size, 0, none⟩ 1 1 (kyC (Go.Sx.keyF (t0 + t1 - f x 0) (f x 1) (f x 2))) rfl rfl (cells_new W3 _ _) (kyC_one _) (by unfold maxLen; omega) (by omega) (by simp; omega) ?_
    intro v' w1 hown' hgrow
    have hnr : ∀ k, (k = W2.heap.size ∨ k = W2.heap.size + 1 ∨ k = W2.heap.size + 3 ∨ k = p ∨ k = W2.heap.size + 4) → some k ≠ v.ownBlock := fun k hk => by
      rcases hk with rfl | rfl | rfl | rfl | rfl
      · rcases hrow.2 with ⟨rfl, _⟩ | ⟨g, cap, cur, rfl, hgb, _⟩
        · simp [Value.ownBlock]
        · simp [Value.ownBlock]; omega
      · rcases hrow.2 with ⟨rfl, _⟩ | ⟨g, cap, cur, rfl, hgb, _⟩
        · simp [Value.ownBlock]
        · simp [Value.ownBlock]; omega
      · exact hv.not_row (by decide) hrow
      · exact hvp.symm
      · exact h4.not_row (by decide) hrow
    have hold : ∀ k, k < W.heap.size → some k ≠ v.ownBlock → w1.heap[k]? = W.heap[k]? := fun k hk hn => (hgrow.block k (by simp; omega) hn).trans ((Below.heap_alloc W3 _ k (by omega)).trans (hB3W.block k hk))
    have h4' := h4.lt
    obtain ⟨g', cap', rfl⟩ := ownsRow_succ hown'
    obtain ⟨hv1, hv9, hr9, hk9, hb9⟩ := hv3.appended (by decide) hrow3 (by omega) (by omega) hown' hgrow
    have hc1 := hv1.cell
    have hf1 := hv1.frozen
    have hSw : S w1 := hSi w1 fun k hk => by
      refine hold k (by rcases hk with rfl | rfl | rfl | rfl <;> omega) (hnr k (by omega))
    refine ⟨fun _ => hSw, ?_⟩
    refine oneG (i := 17) rfl (by kernel_rfl) (by rfl) ?_
    go_simp
    refine doneG (by kernel_rfl) ?_ _
    refine ⟨(⟨hW3, fun k o _ hk _ => (hB3W.block k (Array.getElem?_eq_some_iff.1 hk).1).trans hk⟩ : KeepsFrom _ W W3).trans (hk9.from _), ⟨(hB3W.mono (by omega)).trans hb9, ?_⟩, ⟨⟨⟨_, hv9, by simpa using hr9, trivial⟩, ?_⟩, hB.trans ((hB3W.mono (by omega)).trans hb9)⟩⟩
    · rw [Below.heap_setCell _ _ _ _ (by simp)]
      exact hold _ h4' (hnr _ (by simp))
    · exact (Below.heap_setCell _ _ _ _ (by simp)).trans ((hold _ h4' (hnr _ (by simp))).trans h4)
  case done =>
    rintro D ys W hD rfl ⟨⟨⟨v, hv, hrow, _⟩, h4⟩, hB⟩ hK
    have hc := hv.cell
    gi_wp2
    refine ⟨by simp, .inl ⟨_, _, rfl, run_takeDeferred hK, ?_⟩⟩
    rw [upto_length] at hrow
    refine ⟨_, by simp [results, Tryz.f9, go_sem], v, rfl, ?_, ?_⟩
    · have h9 := ownsRow_putObj hrow (.deferred none) hK rfl
      exact ⟨h9.1, h9.2.imp id fun ⟨g, cap, cur, e1, e2, e3⟩ => ⟨g, cap, cur, e1, by omega, e3⟩⟩
    · exact hBW.trans ((hB.mono (by omega)).trans (belowK_b (w := w) (Nat.le_refl _) W D _ _ (by have := hB.size; omega) hK rfl rfl))
  case stop =>
    rintro D c pre W _ _ h _
    exact h.elim
end Go.Proofs.YtcebmjajnbafoaaGreatDoor
namespace Go.Proofs.YtcebmjajnbafoaaGreatDoor
open Go Go.RowKit Go.Shelf Go.Proofs Go.Sx
/-- A call that hands back a row of its own, and a number besides. -/
theorem cal_ownsRow2 {P : Program} {f : FuncId} {args : List V} {H : List Blk} {e : TypeId} {z n : Nat} {cells : List V} {m : Int} (hcall : callable P f = true) (hlen : cells.length = n * z) (hn : 0 < n)
    (hwf : ∀ c ∈ cells, V.lt H.length c ∧ c.one = true)
    (h : ∀ (σ : Nat → Go.Sx.Loc) (w : World), HRel σ H w → lts H.length args → Calls P f (concs σ args).toArray w fun x w' => ∃ v, x = .returned (.tuple #[v, .int .i64 m]) ∧ w'.ownsRow w.heap.size e z v n (concs σ cells) ∧ Below w.heap.size w w') :
    Cal P f args H fun u H' => u = .t [.s H.length 0 n (.u 0), .v (.int .i64 m)] ∧ H' = H ++ [⟨cells, e, .own z⟩] :=
  ⟨hcall, fun σ w hw hl => (h σ w hw hl).mono fun x w' ⟨v, hx, hrow, hb⟩ => by
    obtain ⟨_, ⟨_, h0⟩ | ⟨g, cap, cur, rfl, hg, hc, h1, h2, h3, h4⟩⟩ := hrow
    · omega
    subst hx
    have ha : ∀ i, i < H.length → upσ σ H.length ⟨g, 0, cap⟩ i = σ i := fun i hi => upσ_lt _ _ _ _ hi
    have hcc : concs (upσ σ H.length ⟨g, 0, cap⟩) cells = concs σ cells := concs_congr ha _ ((lts_iff _ _).2 fun c hc => (hwf c hc).1)
    have hold : Go.Sx.Holds (upσ σ H.length ⟨g, 0, cap⟩) w' H.length ⟨cells, e, .own z⟩ := by
      show (_ ∧ _)
      rw [upσ_same]
      exact ⟨rfl, cur, n, hc, hlen, h1, h3, h2, by rw [hcc]; exact h4⟩
    refine ⟨.t [.s H.length 0 n (.u 0), .v (.int .i64 m)], H ++ [⟨cells, e, .own z⟩], upσ σ H.length ⟨g, 0, cap⟩, ⟨rfl, rfl⟩, ?_, by simp [V.lt, Go.Sx.lts]; rfl, by simp, ha, ?_, ?_, ?_⟩
    · simp [conc, concs, Cap.val, upσ_same]
    · exact hw.push ha hb.size hb.block (by rw [upσ_same]; exact hg) hold fun c hc => ⟨V.lt_mono (Nat.le_succ _) _ (hwf c hc).1, (hwf c hc).2⟩
    · exact ⟨hb.os, hb.tape, hb.output, hb.size, fun k hk _ => hb.block k hk⟩
    · intro i b hi hm
      rcases get_app_cases hi with ⟨hlt, hi⟩ | ⟨rfl, rfl⟩
      · rw [ha i hlt]; exact .inr ⟨i, b, hi, hm, rfl⟩
      · left; rw [upσ_same]; exact hg⟩
theorem concs_bk (σ : Nat → Go.Sx.Loc) (l : List (Nat → Int)) : ∀ n, concs σ ((bkN l n).flatMap encK) = (upto (fun j => l.length - 1 - j) n).flatMap fun x => kyC (keyF (kAt l 0 0 + kAt l (l.length - 1) 0 - kAt l x 0) (kAt l x 1) (kAt l x 2))
  | 0 => rfl
  | n + 1 => by
    rw [upto_succ, List.flatMap_append, ← concs_bk σ l n, bkN, List.flatMap_append]
    simp only [concs_eq, List.map_append, List.flatMap_cons, List.flatMap_nil, List.append_nil]
    rfl
theorem tk_key {l : List (Nat → Int)} (hv : tkOk l = true) (j : Nat) : (0 ≤ kAt l j 0 ∧ kAt l j 0 ≤ 200) ∧ (-24 ≤ kAt l j 1 ∧ kAt l j 1 ≤ 24) ∧ (-24 ≤ kAt l j 2 ∧ kAt l j 2 ≤ 24) := by
  rcases Nat.lt_or_ge j l.length with h | h
  · rw [kAt_at h]; exact okK_iff.1 (tkOk_at hv h).1
  · unfold kAt
    rw [List.getElem?_eq_none h]
    simp
theorem implBackTrack_ok {H : List Blk} {v : V} {l : List (Nat → Int)} (h : Rd H v encK l) (hv : tkOk l = true) :
    Cal Tryz.prog 9 [v] H fun u H' => u = .t [.s H.length 0 l.length (.u 0), .v (.int .i64 0)] ∧ H' = H ++ [⟨(bkL l).flatMap encK, 42, .own 3⟩] := by
  have hlen := tkOk_len hv
  obtain ⟨i, off, c, b, rfl, hat, hf⟩ := h.full (by omega)
  refine cal_ownsRow2 (by kernel_rfl) (by rw [flat_encK.flen, bkL_len]) (by omega) (fun c hc => by obtain ⟨y, rfl, hy⟩ := flat_encK.mem hc; exact ⟨hy, hy⟩) fun σ w hw _ => ?_
  have hcel : ∀ j, j < l.length → ∀ q, q < 3 → w.cell? ⟨(σ i).blk, (σ i).off + off + (j * 3 + q), none⟩ = some (.int (kK q) (kAt l j q)) := fun j hj q hq => by
    have e : At H i (off + j * 3) (rowK kK 3 l[j]) b := hat.el encK_len hj
    have e1 := e.celK (j := q) hq
    have ft := hat.fits encK 3 encK_len hj (by omega)
    have e2 : (concs σ b.cells)[off + j * 3 + q]? = some (.int (kK q) (l[j] q)) := by
      rw [cel_mt σ b.cells _ (by omega), e1]; rfl
    have e3 := (hw.holds i b hat.get).cell hat.live e2
    rw [kAt_at hj, ← e3]
    congr 2
    omega
  have hblk := hw.blk_lt hat.get hat.live
  have hro : ∀ W, Below w.heap.size w W → HRel (fun _ => ⟨(σ i).blk, (σ i).off + off, c.val (σ i).cap⟩) [⟨l.flatMap encK, 42, .ro⟩] W := fun W hW => by
    refine HRel_ro fun k bk hk => ?_
    obtain ⟨rfl, rfl⟩ : k = 0 ∧ bk = ⟨l.flatMap encK, 42, .ro⟩ := by
      cases k with
      | zero => exact ⟨rfl, by simpa using hk.symm⟩
      | succ k => simp at hk
    refine ⟨⟨Nat.lt_of_lt_of_le hblk hW.size, fun j u hu => ?_⟩, rfl, fun c hc => ?_⟩
    · have hjl : j < (l.flatMap encK).length := by
        have := (List.getElem?_eq_some_iff.1 hu).1
        rwa [concs_eq, List.length_map] at this
      rw [flat_encK.flen] at hjl
      have hq := hcel (j / 3) (by omega) (j % 3) (by omega)
      have e : At [⟨l.flatMap encK, 42, .ro⟩] 0 (0 + j / 3 * 3) (rowK kK 3 (l[j / 3]'(by omega))) ⟨l.flatMap encK, 42, .ro⟩ := (At.mk0 (H := []) rfl).el encK_len (by omega)
      have e1 := e.celK (j := j % 3) (by omega)
      rw [cel_mt _ _ _ (by rw [flat_encK.flen]; exact hjl)] at hu
      have ej : 0 + j / 3 * 3 + j % 3 = j := by omega
      rw [ej] at e1
      rw [e1] at hu
      have ej2 : j / 3 * 3 + j % 3 = j := by omega
      rw [ej2, kAt_at (by omega)] at hq
      have := (hW.cell (p := ⟨(σ i).blk, (σ i).off + off + j, none⟩) hblk).trans hq
      rw [this, ← hu]; rfl
    · obtain ⟨y, rfl, hy⟩ := flat_encK.mem hc
      exact ⟨fun _ => hy, hy⟩
  have rd1 : Rd [⟨l.flatMap encK, 42, .ro⟩] (.s 0 0 l.length (.u 0)) encK l := Rd.of (At.mk0 (H := []) rfl)
  have rob : ∀ bk ∈ [(⟨l.flatMap encK, 42, .ro⟩ : Blk)], bk.k.mut = false := fun bk hb => by rw [List.mem_singleton.1 hb]; rfl
  have hK := tkOk_mem hv
  have := backIn 4 (by omega) (σ i).blk ((σ i).off + off) l.length (c.val (σ i).cap) (kAt l 0 0) (kAt l (l.length - 1) 0) (fun j => kAt l j) (by omega) (tk_key hv 0).1 (tk_key hv _).1 (tk_key hv) w hblk
    (fun j hj => by have := hcel j hj 0 (by omega); rwa [Nat.add_zero] at this) (fun j hj => hcel j hj 1 (by omega)) (fun j hj => hcel j hj 2 (by omega))
    (callsIn_wide.2 (calls_val (z := .bool true) (validTrack rd1 hK (by omega)) (fun _ _ h => h.1) (fun _ => by rw [hv]; rfl) (hro w (Below.refl _ _)) (by simp [go_sem]) rob (by simp [concs, conc, Cap.val])))
    (fun W hW => callsIn_wide.2 (calls_val (z := .tuple #[.int .i64 (kAt l 0 0), .int .i64 (kAt l (l.length - 1) 0)]) (trackEnds rd1 hK hv) (fun _ _ h => h.1) (fun _ => rfl) (hro W hW) (by simp [go_sem]) rob (by simp [concs, conc, Cap.val])))
  have e : (concs σ [.s i off l.length c]).toArray = #[.slice (some ⟨(σ i).blk, (σ i).off + off, none⟩) l.length (c.val (σ i).cap)] := by simp [concs, conc]
  rw [e]
  refine (callsIn_wide.1 this).mono ?_
  rintro x w' ⟨v, rfl, hr, hb⟩
  refine ⟨v, rfl, ?_, hb⟩
  have hc := concs_bk σ l l.length
  unfold bkL
  rw [hc]; exact hr
end Go.Proofs.YtcebmjajnbafoaaGreatDoor
