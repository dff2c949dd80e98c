/- Contracts of functions of the translated program, by the walk. -/
import Derived.Test.YtpginknbmmdmoaaC2
set_option linter.unusedVariables false
set_option linter.unusedSimpArgs false
set_option maxRecDepth 8000
set_option maxHeartbeats 4000000
namespace Go.Proofs.Ytpginknbmmdmoaa
open Go Go.Sx
/- Blobs: plain law. -/
def cutF (o : Nat → Int) (j : Nat) : Int := if j < 12 then o j else 0
theorem cutF_row (k : IntKind) (o : Nat → Int) : rowL k 12 (cutF o) = rowL k 12 o := rowL_ext _ _ _ _ fun j hj => by simp [cutF, hj]
theorem cutF_eq {o p : Nat → Int} (h : ∀ j, j < 12 → o j = p j) : cutF o = cutF p := by
  funext j; unfold cutF; split
  · exact h j ‹_›
  · rfl
theorem cutF_cut (o : Nat → Int) : cutF (cutF o) = cutF o := cutF_eq fun j hj => by simp [cutF, hj]
theorem cutF_12 {o : Nat → Int} (h : F12 o) : F12 (cutF o) := fun j hj => by simp only [cutF, hj, if_true]; exact h j hj
theorem dot_cutF {o : Nat → Int} {x y : Nat} (hy : y < 12) : dot (cutF o) x y = dot o x y := by simp [dot, cutF, hy]
def stepF (f o : Nat → Int) : Nat → Int := cutF (meetF (growI o) f)
def itF (f o : Nat → Int) : Nat → (Nat → Int)
  | 0 => o
  | n + 1 => stepF f (itF f o n)
def dot1 (x y : Int) : Nat → Int := cutF (putF zeroF x y)
def blobF (f : Nat → Int) (x y : Int) : Nat → Int := itF f (dot1 x y) 50000
theorem dot_meetF {f g : Nat → Int} (h : R16 f) (h2 : R16 g) {x y : Nat} (hy : y < 12) : dot (meetF f g) x y = (dot f x y && dot g x y) := by
  have a := h y hy
  have b := h2 y hy
  unfold dot meetF
  rw [u16_and _ _ a.1 a.2 b.1 b.2, Int.toNat_natCast, Nat.testBit_and]
theorem meetF_12 {f g : Nat → Int} (h : R16 f) (h2 : F12 g) : F12 (meetF f g) := fun j hj => by
  have a := h j hj
  have b := h2 j hj
  unfold meetF
  rw [u16_and _ _ a.1 a.2 b.1 (by omega)]
  have := Nat.and_le_right (n := (f j).toNat) (m := (g j).toNat)
  omega
theorem growI_r16 {f : Nat → Int} (h : R16 f) : R16 (growI f) := joinF_r16 (joinF_r16 (joinF_r16 (joinF_r16 h (movI_r16 h 1 0)) (movI_r16 h (-1) 0)) (movI_r16 h 0 1)) (movI_r16 h 0 (-1))
theorem dot_growI {f : Nat → Int} (h : F12 f) {x y : Nat} (hy : y < 12) : dot (growI f) x y = (dot f x y || (dot (movI f 1 0) x y || (dot (movI f (-1) 0) x y || (dot (movI f 0 1) x y || dot (movI f 0 (-1)) x y)))) := by
  have r := h.r16
  unfold growI
  rw [dot_joinF (joinF_r16 (joinF_r16 (joinF_r16 r (movI_r16 r 1 0)) (movI_r16 r (-1) 0)) (movI_r16 r 0 1)) (movI_r16 r 0 (-1)) hy,
    dot_joinF (joinF_r16 (joinF_r16 r (movI_r16 r 1 0)) (movI_r16 r (-1) 0)) (movI_r16 r 0 1) hy, dot_joinF (joinF_r16 r (movI_r16 r 1 0)) (movI_r16 r (-1) 0) hy, dot_joinF r (movI_r16 r 1 0) hy]
  simp only [Bool.or_assoc]
/-- All dots of o are dots of f. -/
def Sub (o f : Nat → Int) : Prop := ∀ x y, y < 12 → dot o x y = true → dot f x y = true
theorem Sub.le {o f : Nat → Int} (h : Sub o f) (hf : R16 f) {j : Nat} (hj : j < 12) : (o j).toNat ≤ (f j).toNat := by
  have : (o j).toNat &&& (f j).toNat = (o j).toNat := by
    apply Nat.eq_of_testBit_eq; intro i
    rw [Nat.testBit_and]
    have := h i j hj
    unfold dot at this
    cases e : (o j).toNat.testBit i
    · rfl
    · rw [this e]; rfl
  rw [← this]; exact Nat.and_le_right
theorem step_12 {f o : Nat → Int} (hf : F12 f) (ho : F12 o) : F12 (stepF f o) := cutF_12 (meetF_12 (growI_r16 ho.r16) hf)
theorem step_sub {f o : Nat → Int} (hf : F12 f) (ho : F12 o) : Sub (stepF f o) f := fun x y hy h => by
  unfold stepF at h
  rw [dot_cutF hy, dot_meetF (growI_r16 ho.r16) hf.r16 hy] at h
  exact (Bool.and_eq_true_iff.1 h).2
theorem sub_step {f o : Nat → Int} (hf : F12 f) (ho : F12 o) (h : Sub o f) : Sub o (stepF f o) := fun x y hy hd => by
  unfold stepF
  rw [dot_cutF hy, dot_meetF (growI_r16 ho.r16) hf.r16 hy, dot_growI ho hy, hd, h x y hy hd]; rfl
theorem it_12 {f o : Nat → Int} (hf : F12 f) (ho : F12 o) : ∀ n, F12 (itF f o n)
  | 0 => ho
  | n + 1 => step_12 hf (it_12 hf ho n)
theorem it_sub {f o : Nat → Int} (hf : F12 f) (ho : F12 o) (h : Sub o f) : ∀ n, Sub (itF f o n) f
  | 0 => h
  | n + 1 => step_sub hf (it_12 hf ho n)
theorem it_cut {f o : Nat → Int} (ho : cutF o = o) : ∀ n, cutF (itF f o n) = itF f o n
  | 0 => ho
  | n + 1 => cutF_cut _
theorem it_fix {f o : Nat → Int} {n : Nat} (h : itF f o (n + 1) = itF f o n) : ∀ d, itF f o (n + d) = itF f o n
  | 0 => rfl
  | d + 1 => by
    have := it_fix h d
    show stepF f (itF f o (n + d)) = _
    rw [this]; exact h
def wt (o : Nat → Int) : Nat := ((List.range 12).map fun j => (o j).toNat).sum
theorem sum_le (a b : Nat → Nat) : ∀ (l : List Nat), (∀ j ∈ l, a j ≤ b j) → (l.map a).sum ≤ (l.map b).sum
  | [], _ => Nat.le_refl _
  | j :: l, h => by
    have h1 := sum_le a b l fun k hk => h k (List.mem_cons_of_mem _ hk)
    have h2 := h j (List.mem_cons_self ..)
    simp only [List.map_cons, List.sum_cons]; omega
theorem sum_lt (a b : Nat → Nat) : ∀ (l : List Nat), (∀ j ∈ l, a j ≤ b j) → (∃ j ∈ l, a j ≠ b j) → (l.map a).sum < (l.map b).sum
  | [], _, ⟨j, hj, _⟩ => by cases hj
  | j :: l, h, ⟨k, hk, hne⟩ => by
    have h1 := sum_le a b l fun k hk => h k (List.mem_cons_of_mem _ hk)
    have h2 := h j (List.mem_cons_self ..)
    simp only [List.map_cons, List.sum_cons]
    by_cases e : a j = b j
    · have hk2 : k ∈ l := by
        rcases List.mem_cons.1 hk with rfl | hk
        · exact absurd e hne
        · exact hk
      have := sum_lt a b l (fun k hk => h k (List.mem_cons_of_mem _ hk)) ⟨k, hk2, hne⟩
      omega
    · omega
theorem wt_le {o : Nat → Int} (h : F12 o) : wt o ≤ 49140 := by
  have := sum_le (fun j => (o j).toNat) (fun _ => 4095) (List.range 12) fun j hj => by have := h j (List.mem_range.1 hj); show (o j).toNat ≤ 4095; omega
  exact Nat.le_trans this (by decide)
theorem wt_lt {o p : Nat → Int} (ho : F12 o) (hp : F12 p) (h : Sub o p) (hne : allEq 12 p o = false) : wt o < wt p := by
  refine sum_lt _ _ _ (fun j hj => h.le hp.r16 (List.mem_range.1 hj)) ?_
  apply Classical.byContradiction
  intro hno
  have : allEq 12 p o = true := allEq_iff.2 fun j hj => by
    apply Classical.byContradiction
    intro e
    exact hno ⟨j, List.mem_range.2 hj, fun e2 => e (by have a := ho j hj; have b := hp j hj; omega)⟩
  rw [this] at hne; cases hne
theorem it_wt {f o : Nat → Int} (hf : F12 f) (ho : F12 o) (h : Sub o f) {n : Nat} (hn : n ≤ wt (itF f o n)) (hne : allEq 12 (itF f o (n + 1)) (itF f o n) = false) : n + 1 ≤ wt (itF f o (n + 1)) := by
  have := wt_lt (it_12 hf ho n) (it_12 hf ho (n + 1)) (sub_step hf (it_12 hf ho n) (it_sub hf ho h n)) hne
  omega
theorem it_end {f o : Nat → Int} (hf : F12 f) (ho : F12 o) (hc : cutF o = o) {n : Nat} (hn : n ≤ wt (itF f o n)) (he : allEq 12 (itF f o (n + 1)) (itF f o n) = true) : itF f o 50000 = itF f o n := by
  have e : itF f o (n + 1) = itF f o n := by
    rw [← it_cut hc (n + 1), ← it_cut hc n]
    exact cutF_eq (allEq_iff.1 he)
  have := wt_le (it_12 hf ho n)
  have h2 := it_fix e (50000 - n)
  rwa [show n + (50000 - n) = 50000 by omega] at h2
theorem dot1_12 {x y : Int} : F12 (dot1 x y) := by
  unfold dot1
  apply cutF_12
  intro j hj
  unfold putF
  split
  · rename_i hp
    rw [placeB_iff] at hp
    unfold upd
    split
    · have h1 : (2 : Nat) ^ x.toNat ≤ 2 ^ 11 := Nat.pow_le_pow_right (by omega) (by omega)
      have h2 : ((zeroF y.toNat).toNat ||| 2 ^ x.toNat) < 2 ^ 12 := Nat.or_lt_two_pow (by simp [zeroF]) (by omega)
      omega
    · simp [zeroF]
  · simp [zeroF]
theorem dot1_cut (x y : Int) : cutF (dot1 x y) = dot1 x y := cutF_cut _
theorem dot1_sub {f : Nat → Int} {x y : Int} (h : hasF f x y = true) : Sub (dot1 x y) f := fun a b hb hd => by
  unfold dot1 at hd
  rw [dot_cutF hb, dot_putF, dot_zero, Bool.false_or] at hd
  simp only [Bool.and_eq_true, decide_eq_true_eq] at hd
  unfold hasF at h
  rw [Bool.and_eq_true] at h
  rw [show x.toNat = a by omega, show y.toNat = b by omega] at h
  exact h.2
/- The walks. -/
theorem or_dot8 {a x : Int} (ha : 0 ≤ a) (ha2 : a < 65536) (hx : 0 ≤ x) (hx2 : x ≤ 15) : bits .or .u16 a (IntKind.u16.wrap (1 * 2 ^ (min x.toNat 16))) = ((a.toNat ||| 2 ^ x.toNat : Nat) : Int) := by
  have := or_dot ha ha2 hx hx2
  rwa [wrap_u64 hx (by omega)] at this
theorem with_ {H : List Blk} {f : Nat → Int} {a c : Int} (hf : R16 f) (hp : placeB a c = true) : Cal Try.prog 145 [.a (rowL .u16 12 (f)), .v (.int .i64 a), .v (.int .i64 c)] H fun v H' => v = .a (rowL .u16 12 (putF f a c)) ∧ H' = H := by
  refine cal_fn 12 mixed Try.func145 Try.ntmps145 Try.results145 rfl rfl rfl fun hw cx hx hq => ?_
  have e' := placeB_iff.1 hp
  have h16 := hf c.toNat (by omega)
  repeat (first | (simp only [go_sem, Int.reduceLT, Int.reduceLE, Int.reduceEq, Int.reduceToNat, rowL_cel _ _ _ (show c.toNat < 12 by omega), rowL_wr _ _ _ (show c.toNat < 12 by omega), or_dot8 h16.1 h16.2 e'.1.1 (show a ≤ 15 by omega), rowL_rep]) | ((with_reducible refine And.intro ?_ ?_); omega) | ((with_reducible refine isWKr (id := 1) ?_); refine WK_drawAt 1 [[],[0],[0,1],[],[3],[0,1,2,3,4],[0,1,2,3,4,5],[0,1,2,3,4,5,6]] (by kernel_rfl) ?_) | ((with_reducible refine And.intro ?_ ?_); first | (with_reducible rfl) | assumption | (simp only [go_sem]; done)))
  refine ret_cut hq hw _ (.inl rfl) ?_
  simp [go_sem, putF, hp]
theorem dot1_row (x y : Int) : rowL .u16 12 (putF (fun _ => 0) x y) = rowL .u16 12 (dot1 x y) := (cutF_row .u16 _).symm
theorem blob {H : List Blk} {f : Nat → Int} {a c : Int} (hf : F12 f) (hp : hasF f a c = true) : Cal Try.prog 88 [.a (rowL .u16 12 (f)), .v (.int .i64 a), .v (.int .i64 c)] H fun v H' => v = .a (rowL .u16 12 (blobF f a c)) ∧ H' = H := by
  have hpl : placeB a c = true := (Bool.and_eq_true_iff.1 hp).1
  have hsub := dot1_sub hp
  refine cal_fn 19 mixed Try.func88 Try.ntmps88 Try.results88 rfl rfl rfl fun hw cx hx hq => ?_
  repeat (first | (simp only [go_sem, Int.reduceLT, Int.reduceLE, Int.reduceEq, Int.reduceToNat, rowL_rep]) | ((with_reducible refine And.intro ?_ ?_); omega) | ((with_reducible refine isSK ?_); first | (refine call_ret (with_ zeroF_r16 hpl) (by simp only [go_sem, Int.reduceLT, Int.reduceLE, Int.reduceEq, Int.reduceToNat, rowL_rep]) ?_)) | ((with_reducible refine isMC ?_); first | (refine mcall_ret (with_ zeroF_r16 hpl) (by simp only [go_sem, Int.reduceLT, Int.reduceLE, Int.reduceEq, Int.reduceToNat, rowL_rep]) (by simp only [go_sem, Int.reduceLT, Int.reduceLE, Int.reduceEq, Int.reduceToNat, rowL_rep]) ?_)) | ((with_reducible refine isWKr (id := 2) ?_); refine WK_drawAt 2 [[],[0],[],[0,1,2],[],[0,1,2,3,4]] (by kernel_rfl) ?_) | ((with_reducible refine And.intro ?_ ?_); first | (with_reducible rfl) | assumption | (simp only [go_sem]; done)))
  simp only [zeroF, dot1_row]
  repeat (first | (simp only [go_sem, Int.reduceLT, Int.reduceLE, Int.reduceEq, Int.reduceToNat]) | ((with_reducible refine And.intro ?_ ?_); omega) | ((with_reducible refine isWKr (id := 2) ?_); refine WK_drawAt 2 [[],[0],[],[0,1,2],[],[0,1,2,3,4]] (by kernel_rfl) ?_) | ((with_reducible refine And.intro ?_ ?_); first | (with_reducible rfl) | assumption | (simp only [go_sem]; done)))
  refine WK_for (fun n : Nat => ⟨[.any, .any, .any, .p H.length 0, .any, .any, .p (H.length + 1) 0, .p (H.length + 2) 0] ++ junk 14, H ++ [⟨rowL .u16 12 (f), 24, .fix⟩, ⟨rowL .u16 12 (fun _ => 0), 24, .fix⟩, ⟨rowL .u16 12 (itF f (dot1 a c) n), 24, .fix⟩]⟩) (fun n => n ≤ wt (itF f (dot1 a c) n)) (fun n => 50000 - n) 0 (Weak.slots ?_) ?_ fun n hn => ?_
  · simp [go_sem]
  · simp
  have h12 := it_12 hf (dot1_12 (x := a) (y := c)) n
  have hle := wt_le h12
  have hrow : rowL .u16 12 (meetF (growI (itF f (dot1 a c) n)) f) = rowL .u16 12 (itF f (dot1 a c) (n + 1)) := (cutF_row .u16 _).symm
  repeat (first | (simp only [go_sem, Int.reduceLT, Int.reduceLE, Int.reduceEq, Int.reduceToNat, rowL_rep, hrow]) | ((with_reducible refine And.intro ?_ ?_); omega) | ((with_reducible refine isSK ?_); first | (refine call_ret (grown h12.r16) (by simp only [go_sem, Int.reduceLT, Int.reduceLE, Int.reduceEq, Int.reduceToNat, rowL_rep, hrow]) ?_) | (refine call_ret (meet) (by simp only [go_sem, Int.reduceLT, Int.reduceLE, Int.reduceEq, Int.reduceToNat, rowL_rep, hrow]) ?_)) | ((with_reducible refine isMC ?_); first | (refine mcall_ret (grown h12.r16) (by simp only [go_sem, Int.reduceLT, Int.reduceLE, Int.reduceEq, Int.reduceToNat, rowL_rep, hrow]) (by simp only [go_sem, Int.reduceLT, Int.reduceLE, Int.reduceEq, Int.reduceToNat, rowL_rep, hrow]) ?_) | (refine mcall_ret (meet) (by simp only [go_sem, Int.reduceLT, Int.reduceLE, Int.reduceEq, Int.reduceToNat, rowL_rep, hrow]) (by simp only [go_sem, Int.reduceLT, Int.reduceLE, Int.reduceEq, Int.reduceToNat, rowL_rep, hrow]) ?_)) | ((with_reducible refine isWKr (id := 2) ?_); refine WK_drawAt 2 [[],[0],[],[0,1,2],[],[0,1,2,3,4]] (by kernel_rfl) ?_) | ((with_reducible refine And.intro ?_ ?_); first | (with_reducible rfl) | assumption | (simp only [go_sem]; done)))
  refine ⟨fun e => ?_, fun e => ?_⟩
  · refine ret_cut hq hw _ (.inl rfl) ?_
    simp [go_sem, blobF, it_end hf dot1_12 (dot1_cut a c) hn e]
  · repeat (first | (simp only [go_sem, Int.reduceLT, Int.reduceLE, Int.reduceEq, Int.reduceToNat]) | ((with_reducible refine And.intro ?_ ?_); omega) | ((with_reducible refine isWKr (id := 2) ?_); refine WK_drawAt 2 [[],[0],[],[0,1,2],[],[0,1,2,3,4]] (by kernel_rfl) ?_) | ((with_reducible refine And.intro ?_ ?_); first | (with_reducible rfl) | assumption | (simp only [go_sem]; done)))
    refine EK_again (n + 1) ?_ (it_wt hf dot1_12 hsub hn e) (by omega)
    exact Weak.keepN rfl (by simp [go_sem] <;> omega) (by simp [hx]) (by simp [go_sem] <;> omega) (hw.app (by simp [go_sem] <;> omega))
theorem dot1_rowS {x y : Int} : rowL .u16 12 (putF zeroF x y) = rowL .u16 12 (dot1 x y) := (cutF_row .u16 _).symm
theorem l01Blob {H : List Blk} {i off : Nat} {f : Nat → Int} {b : Blk} {a c : Int} (h : At H i off (rowL .u16 12 (f)) b) (hf : F12 f) (hp : hasF f a c = true) : Cal Try.prog 85 [.p i off, .v (.int .i64 a), .v (.int .i64 c)] H fun v H' => v = .a (rowL .u16 12 (blobF f a c)) ∧ H' = H := by
  have hsub := dot1_sub hp
  have hlt := h.lt
  refine cal_fn 32 mixed Try.func85 Try.ntmps85 Try.results85 rfl rfl rfl fun hw cx hx hq => ?_
  repeat (first | (simp only [go_sem, Int.reduceLT, Int.reduceLE, Int.reduceEq, Int.reduceToNat, rowL_rep]) | ((with_reducible refine And.intro ?_ ?_); omega) | ((with_reducible refine isWKr (id := 7) ?_); refine WK_drawAt 7 [[],[],[1],[1,2],[],[],[4],[4,5,6],[4,5,6,7],[1,2,3,4,5,6,7,8],[0,1,2,3,4,5,6,7,8,9],[0,1,2,3,4,5,6,7,8,9,10]] (by kernel_rfl) ?_) | ((with_reducible refine And.intro ?_ ?_); first | (with_reducible rfl) | assumption | (simp only [go_sem]; done)))
  refine call_ret (l01Put (a := a) (c := c) (t := 24) (k := .fix) (f := zeroF) (by simp only [go_sem]; rfl) rfl rfl zeroF_r16) (by simp only [go_sem]) ?_
  repeat (first | (simp only [go_sem, Int.reduceLT, Int.reduceLE, Int.reduceEq, Int.reduceToNat, dot1_rowS]) | ((with_reducible refine And.intro ?_ ?_); omega) | ((with_reducible refine isWKr (id := 7) ?_); refine WK_drawAt 7 [[],[],[1],[1,2],[],[],[4],[4,5,6],[4,5,6,7],[1,2,3,4,5,6,7,8],[0,1,2,3,4,5,6,7,8,9],[0,1,2,3,4,5,6,7,8,9,10]] (by kernel_rfl) ?_) | ((with_reducible refine And.intro ?_ ?_); first | (with_reducible rfl) | assumption | (simp only [go_sem]; done)))
  refine WK_for (fun n : Nat => ⟨[.p i off, .any, .any, .any, .any, .any, .p H.length 0, .p (H.length + 1) 0] ++ junk 27, H ++ [⟨rowL .u16 12 (fun _ => 0), 24, .fix⟩, ⟨rowL .u16 12 (itF f (dot1 a c) n), 24, .fix⟩]⟩) (fun n => n ≤ wt (itF f (dot1 a c) n)) (fun n => 50000 - n) 0 (Weak.slots ?_) ?_ fun n hn => ?_
  · simp [go_sem]
  · simp
  have h12 := it_12 hf (dot1_12 (x := a) (y := c)) n
  have hle := wt_le h12
  have hrow : rowL .u16 12 (meetF (growI (itF f (dot1 a c) n)) f) = rowL .u16 12 (itF f (dot1 a c) (n + 1)) := (cutF_row .u16 _).symm
  have hgr := grow_eq h12 .u16
  repeat (first | (simp only [go_sem, Int.reduceLT, Int.reduceLE, Int.reduceEq, Int.reduceToNat, rowL_rep, hgr]) | ((with_reducible refine And.intro ?_ ?_); omega) | ((with_reducible refine isSK ?_); first | (refine call_ret (l01Grow (At.mk' 1 rfl rfl) h12.r16) (by simp only [go_sem, Int.reduceLT, Int.reduceLE, Int.reduceEq, Int.reduceToNat, rowL_rep, hgr]) ?_)) | ((with_reducible refine isMC ?_); first | (refine mcall_ret (l01Grow (At.mk' 1 rfl rfl) h12.r16) (by simp only [go_sem, Int.reduceLT, Int.reduceLE, Int.reduceEq, Int.reduceToNat, rowL_rep, hgr]) (by simp only [go_sem, Int.reduceLT, Int.reduceLE, Int.reduceEq, Int.reduceToNat, rowL_rep, hgr]) ?_)) | ((with_reducible refine isWKr (id := 7) ?_); refine WK_drawAt 7 [[],[],[1],[1,2],[],[],[4],[4,5,6],[4,5,6,7],[1,2,3,4,5,6,7,8],[0,1,2,3,4,5,6,7,8,9],[0,1,2,3,4,5,6,7,8,9,10]] (by kernel_rfl) ?_) | ((with_reducible refine And.intro ?_ ?_); first | (with_reducible rfl) | assumption | (simp only [go_sem]; done)))
  refine WK_for (fun m : Nat => ⟨[.p i off, .any, .any, .any, .any, .any, .p H.length 0, .p (H.length + 1) 0, .p (H.length + 2) 0, .v (.int .i64 m)] ++ junk 25, H ++ [⟨rowL .u16 12 (fun _ => 0), 24, .fix⟩, ⟨rowL .u16 12 (itF f (dot1 a c) n), 24, .fix⟩, ⟨rowL .u16 12 (pfx (meetF (growI (itF f (dot1 a c) n)) f) (growI (itF f (dot1 a c) n)) m), 24, .fix⟩]⟩) (fun m => m ≤ 12) (fun m => 12 - m) 0 (Weak.slots ?_) ?_ fun m hm => ?_
  · simp [go_sem]
  · simp
  rcases Int.lt_or_le (m : Int) 12 with hc | hc
  · have hj : m < 12 := by omega
    have l1 := h.len (by simp [go_sem])
    simp only [go_sem] at l1
    have hps : pfx (meetF (growI (itF f (dot1 a c) n)) f) (growI (itF f (dot1 a c) n)) m m = growI (itF f (dot1 a c) n) m := by simp [pfx]
    repeat (first | (simp only [go_sem, Int.reduceLT, Int.reduceLE, Int.reduceEq, Int.reduceToNat, hc, h.lt, h.get, h.live, h.cel hj, rowL_cel _ _ _ hj, hps]) | ((with_reducible refine And.intro ?_ ?_); omega) | ((with_reducible refine isWKr (id := 7) ?_); refine WK_drawAt 7 [[],[],[1],[1,2],[],[],[4],[4,5,6],[4,5,6,7],[1,2,3,4,5,6,7,8],[0,1,2,3,4,5,6,7,8,9],[0,1,2,3,4,5,6,7,8,9,10]] (by kernel_rfl) ?_) | ((with_reducible refine And.intro ?_ ?_); first | (with_reducible rfl) | assumption | (simp only [go_sem]; done)))
    refine EK_again (m + 1) ?_ (by omega) (by omega)
    have hwr := wr_pfx .u16 (meetF (growI (itF f (dot1 a c) n)) f) (growI (itF f (dot1 a c) n)) hj rfl
    simp only [meetF] at hwr
    rw [hwr]
    exact Weak.slots (by simp [go_sem])
  · have : m = 12 := by omega
    subst this
    repeat (first | (simp only [go_sem, Int.reduceLT, Int.reduceLE, Int.reduceEq, Int.reduceToNat, Int.not_lt.2 hc, pfx_all, hrow]) | ((with_reducible refine And.intro ?_ ?_); omega) | ((with_reducible refine isWKr (id := 7) ?_); refine WK_drawAt 7 [[],[],[1],[1,2],[],[],[4],[4,5,6],[4,5,6,7],[1,2,3,4,5,6,7,8],[0,1,2,3,4,5,6,7,8,9],[0,1,2,3,4,5,6,7,8,9,10]] (by kernel_rfl) ?_) | ((with_reducible refine And.intro ?_ ?_); first | (with_reducible rfl) | assumption | (simp only [go_sem]; done)))
    refine ⟨fun e => ?_, fun e => ?_⟩
    · refine ret_cut hq hw _ (.inl rfl) ?_
      simp [go_sem, blobF, it_end hf dot1_12 (dot1_cut a c) hn e]
    · repeat (first | (simp only [go_sem, Int.reduceLT, Int.reduceLE, Int.reduceEq, Int.reduceToNat]) | ((with_reducible refine And.intro ?_ ?_); omega) | ((with_reducible refine isWKr (id := 7) ?_); refine WK_drawAt 7 [[],[],[1],[1,2],[],[],[4],[4,5,6],[4,5,6,7],[1,2,3,4,5,6,7,8],[0,1,2,3,4,5,6,7,8,9],[0,1,2,3,4,5,6,7,8,9,10]] (by kernel_rfl) ?_) | ((with_reducible refine And.intro ?_ ?_); first | (with_reducible rfl) | assumption | (simp only [go_sem]; done)))
      refine EK_again (n + 1) ?_ (it_wt hf dot1_12 hsub hn e) (by omega)
      exact Weak.keepN rfl (by simp [go_sem] <;> omega) (by simp [hx]) (by simp [go_sem] <;> omega) (hw.app (by simp [go_sem] <;> omega))
end Go.Proofs.Ytpginknbmmdmoaa

