/- Contracts of functions of the translated program, by the walk. -/
import Derived.Test.YtpginknbmmdmoaaC4
import Derived.Test.YtpginknbmmdmoaaC1
set_option linter.unusedVariables false
set_option linter.unusedSimpArgs false
set_option maxRecDepth 8000
set_option maxHeartbeats 4000000
namespace Go.Proofs.Ytpginknbmmdmoaa
open Go Go.Sx
open Go.RowKit
/-- The four ways. -/
theorem dot_near {o : Nat → Int} (h : F12 o) {e s : Int} {x y : Nat} (hy : y < 12) : dot (movI o e s) x y = true ↔ x < 12 ∧ (0 ≤ (x : Int) - e ∧ (x : Int) - e ≤ 11) ∧ (0 ≤ (y : Int) - s ∧ (y : Int) - s ≤ 11) ∧ dot o ((x : Int) - e).toNat ((y : Int) - s).toNat = true := by
  rw [dot_movI h hy]
  simp only [Bool.and_eq_true, decide_eq_true_eq, placeB_iff]
  constructor
  · rintro ⟨⟨h1, _⟩, h2, h3⟩; exact ⟨h1, h2.1, h2.2, h3⟩
  · rintro ⟨h1, h2, h3, h4⟩; exact ⟨⟨h1, hy⟩, ⟨h2, h3⟩, h4⟩
theorem grow_iff {o : Nat → Int} (h : F12 o) {x y : Nat} (hy : y < 12) : dot (growI o) x y = true ↔ dot o x y = true ∨ dot (movI o 1 0) x y = true ∨ dot (movI o (-1) 0) x y = true ∨ dot (movI o 0 1) x y = true ∨ dot (movI o 0 (-1)) x y = true := by
  rw [dot_growI h hy]; simp only [Bool.or_eq_true]
theorem Sub.mov {o p : Nat → Int} (ho : F12 o) (hp : F12 p) (h : Sub o p) {e s : Int} {x y : Nat} (hy : y < 12) (hd : dot (movI o e s) x y = true) : dot (movI p e s) x y = true := by
  rw [dot_near ho hy] at hd
  rw [dot_near hp hy]
  exact ⟨hd.1, hd.2.1, hd.2.2.1, h _ _ (by omega) hd.2.2.2⟩
theorem Sub.grow {o p : Nat → Int} (ho : F12 o) (hp : F12 p) (h : Sub o p) : ∀ x y, y < 12 → dot (growI o) x y = true → dot (growI p) x y = true := fun x y hy hd => by
  rw [grow_iff ho hy] at hd
  rw [grow_iff hp hy]
  rcases hd with hd | hd | hd | hd | hd
  · exact .inl (h x y hy hd)
  · exact .inr (.inl (h.mov ho hp hy hd))
  · exact .inr (.inr (.inl (h.mov ho hp hy hd)))
  · exact .inr (.inr (.inr (.inl (h.mov ho hp hy hd))))
  · exact .inr (.inr (.inr (.inr (h.mov ho hp hy hd))))
theorem near_sym {o p : Nat → Int} (ho : F12 o) (hp : F12 p) {e s : Int} {x y : Nat} (hy : y < 12) (hd : dot (movI o e s) x y = true) (hpd : dot p x y = true) :
    ∃ a b, b < 12 ∧ dot o a b = true ∧ dot (movI p (-e) (-s)) a b = true := by
  rw [dot_near ho hy] at hd
  obtain ⟨hx, h1, h2, h3⟩ := hd
  refine ⟨((x : Int) - e).toNat, ((y : Int) - s).toNat, by omega, h3, ?_⟩
  rw [dot_near hp (by omega)]
  have e1 : ((((x : Int) - e).toNat : Int) - -e).toNat = x := by omega
  have e2 : ((((y : Int) - s).toNat : Int) - -s).toNat = y := by omega
  refine ⟨by omega, by omega, by omega, ?_⟩
  rw [e1, e2]; exact hpd
/-- Who is beside me, beside him I am. -/
theorem grow_sym {o p : Nat → Int} (ho : F12 o) (hp : F12 p) {x y : Nat} (hy : y < 12) (hd : dot (growI o) x y = true) (hpd : dot p x y = true) :
    ∃ a b, b < 12 ∧ dot o a b = true ∧ dot (growI p) a b = true := by
  rw [grow_iff ho hy] at hd
  rcases hd with hd | hd | hd | hd | hd
  · exact ⟨x, y, hy, hd, (grow_iff hp hy).2 (.inl hpd)⟩
  · obtain ⟨a, b, h1, h2, h3⟩ := near_sym ho hp hy hd hpd
    exact ⟨a, b, h1, h2, (grow_iff hp h1).2 (.inr (.inr (.inl h3)))⟩
  · obtain ⟨a, b, h1, h2, h3⟩ := near_sym ho hp hy hd hpd
    exact ⟨a, b, h1, h2, (grow_iff hp h1).2 (.inr (.inl h3))⟩
  · obtain ⟨a, b, h1, h2, h3⟩ := near_sym ho hp hy hd hpd
    exact ⟨a, b, h1, h2, (grow_iff hp h1).2 (.inr (.inr (.inr (.inr h3))))⟩
  · obtain ⟨a, b, h1, h2, h3⟩ := near_sym ho hp hy hd hpd
    exact ⟨a, b, h1, h2, (grow_iff hp h1).2 (.inr (.inr (.inr (.inl h3))))⟩
/-- What is beside g and in f is in g. -/
def ClF (g f : Nat → Int) : Prop := ∀ x y, y < 12 → dot (growI g) x y = true → dot f x y = true → dot g x y = true
theorem step_same {f g o : Nat → Int} (hf : F12 f) (hg : F12 g) (ho : F12 o) (hs : Sub g f) (hc : ClF g f) (h : Sub o g) : stepF f o = stepF g o := by
  unfold stepF
  refine cutF_eq (dot_ext (meetF_12 (growI_r16 ho.r16) hf).r16 (meetF_12 (growI_r16 ho.r16) hg).r16 fun x y _ hy => ?_)
  rw [dot_meetF (growI_r16 ho.r16) hf.r16 hy, dot_meetF (growI_r16 ho.r16) hg.r16 hy, Bool.eq_iff_iff]
  simp only [Bool.and_eq_true]
  constructor
  · rintro ⟨h1, h2⟩; exact ⟨h1, hc x y hy (h.grow ho hg x y hy h1) h2⟩
  · rintro ⟨h1, h2⟩; exact ⟨h1, hs x y hy h2⟩
theorem it_same {f g o : Nat → Int} (hf : F12 f) (hg : F12 g) (ho : F12 o) (hs : Sub g f) (hc : ClF g f) (h : Sub o g) : ∀ n, itF f o n = itF g o n
  | 0 => rfl
  | n + 1 => by
    show stepF f (itF f o n) = stepF g (itF g o n)
    rw [it_same hf hg ho hs hc h n]
    exact step_same hf hg (it_12 hg ho n) hs hc (it_sub hg ho h n)
theorem blob_same {f g : Nat → Int} (hf : F12 f) (hg : F12 g) (hs : Sub g f) (hc : ClF g f) {x y : Int} (h : hasF g x y = true) : blobF f x y = blobF g x y :=
  it_same hf hg dot1_12 hs hc (dot1_sub h) 50000
/-- A blob has come to its end. -/
theorem blob_fix {f : Nat → Int} (hf : F12 f) {x y : Int} (h : hasF f x y = true) : stepF f (blobF f x y) = blobF f x y := by
  have ho := dot1_12 (x := x) (y := y)
  have hs := dot1_sub h
  have key : ∃ n, n ≤ wt (itF f (dot1 x y) n) ∧ allEq 12 (itF f (dot1 x y) (n + 1)) (itF f (dot1 x y) n) = true := by
    apply Classical.byContradiction
    intro hno
    have : ∀ n, n ≤ wt (itF f (dot1 x y) n) := by
      intro n
      induction n with
      | zero => exact Nat.zero_le _
      | succ n ih =>
        refine it_wt hf ho hs ih ?_
        cases e : allEq 12 (itF f (dot1 x y) (n + 1)) (itF f (dot1 x y) n) with
        | false => rfl
        | true => exact absurd ⟨n, ih, e⟩ hno
    have h1 := this 49141
    have h2 := wt_le (it_12 hf ho 49141)
    omega
  obtain ⟨n, hn, he⟩ := key
  have e := it_end hf ho (dot1_cut x y) hn he
  have e2 : itF f (dot1 x y) (n + 1) = itF f (dot1 x y) n := by
    rw [← it_cut (dot1_cut x y) (n + 1), ← it_cut (dot1_cut x y) n]
    exact cutF_eq (allEq_iff.1 he)
  unfold blobF
  rw [e]
  exact e2
theorem blob_12 {f : Nat → Int} (hf : F12 f) (x y : Int) : F12 (blobF f x y) := it_12 hf dot1_12 _
theorem blob_cl {f : Nat → Int} (hf : F12 f) {x y : Int} (h : hasF f x y = true) : ClF (blobF f x y) f := fun a b hb h1 h2 => by
  rw [← blob_fix hf h]
  unfold stepF
  rw [dot_cutF hb, dot_meetF (growI_r16 (blob_12 hf x y).r16) hf.r16 hb, h1, h2]; rfl
theorem it_has {f o : Nat → Int} (hf : F12 f) (ho : F12 o) (h : Sub o f) : ∀ n, Sub o (itF f o n)
  | 0 => fun _ _ _ h => h
  | n + 1 => fun x y hy hd => sub_step hf (it_12 hf ho n) (it_sub hf ho h n) x y hy (it_has hf ho h n x y hy hd)
theorem blob_has {f : Nat → Int} (hf : F12 f) {x y : Nat} (hx : x < 12) (hy : y < 12) (h : dot f x y = true) : dot (blobF f x y) x y = true := by
  have hh : hasF f x y = true := by unfold hasF placeB; simp [h]; omega
  refine it_has hf dot1_12 (dot1_sub hh) 50000 x y hy ?_
  unfold dot1
  rw [dot_cutF hy, dot_putF, dot_zero, Bool.false_or]
  simp [placeB]; omega
theorem dot_lessF {f g : Nat → Int} (hf : R16 f) (hg : R16 g) {x y : Nat} (hy : y < 12) : dot (lessF f g) x y = (dot f x y && !dot g x y) := by
  have a := hf y hy
  have b := hg y hy
  unfold dot lessF
  have e : bits .andNot .u16 (f y) (g y) = IntKind.u16.wrap ((BitVec.ofInt 16 (f y) &&& ~~~(BitVec.ofInt 16 (g y))).toNat : Int) := rfl
  have e2 : ∀ z : Int, 0 ≤ z → z < 65536 → (BitVec.ofInt 16 z).toNat = z.toNat := fun z h1 h2 => by
    obtain ⟨A, hA⟩ := Int.eq_ofNat_of_zero_le h1
    rw [hA, ofInt_u16 A (by omega)]; rfl
  have hlt := (BitVec.ofInt 16 (f y) &&& ~~~(BitVec.ofInt 16 (g y))).isLt
  rw [e, wrap_u16 (by omega) (by omega), Int.toNat_natCast, BitVec.testBit_toNat, BitVec.getLsbD_and, BitVec.getLsbD_not, ← BitVec.testBit_toNat, ← BitVec.testBit_toNat, e2 _ a.1 a.2, e2 _ b.1 b.2]
  by_cases hx : x < 16
  · simp [hx]
  · have hf0 : (f y).toNat.testBit x = false := by
      apply Nat.testBit_lt_two_pow
      have : (2 : Nat) ^ 16 ≤ 2 ^ x := Nat.pow_le_pow_right (by omega) (by omega)
      omega
    rw [hf0]; rfl
theorem less_sub {f g : Nat → Int} (hf : R16 f) (hg : R16 g) : Sub (lessF f g) f := fun x y hy h => by
  rw [dot_lessF hf hg hy] at h; exact (Bool.and_eq_true_iff.1 h).1
theorem lessF_f12 {f g : Nat → Int} (hf : F12 f) (hg : R16 g) : F12 (lessF f g) := fun j hj => by
  have h1 : Sub (lessF f g) f := less_sub hf.r16 hg
  have a := hf j hj
  have e : (lessF f g j).toNat &&& (f j).toNat = (lessF f g j).toNat := by
    apply Nat.eq_of_testBit_eq; intro i
    rw [Nat.testBit_and]
    have := h1 i j hj
    unfold dot at this
    cases e : (lessF f g j).toNat.testBit i
    · rfl
    · rw [this e]; rfl
  have h2 : (lessF f g j).toNat ≤ (f j).toNat := by rw [← e]; exact Nat.and_le_right
  have h3 : 0 ≤ lessF f g j := by
    show (0 : Int) ≤ IntKind.u16.wrap ((BitVec.ofInt 16 (f j) &&& ~~~(BitVec.ofInt 16 (g j))).toNat : Int)
    have := (BitVec.ofInt 16 (f j) &&& ~~~(BitVec.ofInt 16 (g j))).isLt
    rw [wrap_u16 (by omega) (by omega)]; omega
  omega
/-- A blob less, what is left is closed again. -/
theorem less_cl {f g : Nat → Int} (hf : F12 f) (hg : F12 g) (hs : Sub g f) (hc : ClF g f) {x y : Int} (h : hasF g x y = true) : ClF (lessF g (blobF g x y)) f := fun a b hb h1 h2 => by
  have hB := blob_12 hg x y
  have hgB : hasF f x y = true := by
    unfold hasF at h ⊢
    rw [Bool.and_eq_true] at h ⊢
    have := placeB_iff.1 h.1
    exact ⟨h.1, hs _ _ (by omega) h.2⟩
  have hl := lessF_f12 hg hB.r16
  have h3 : dot g a b = true := hc a b hb ((less_sub hg.r16 hB.r16).grow hl hg a b hb h1) h2
  rw [dot_lessF hg.r16 hB.r16 hb, h3, Bool.true_and]
  cases e : dot (blobF g x y) a b with
  | false => rfl
  | true =>
    obtain ⟨p, q, hq, g1, g2⟩ := grow_sym hl hB hb h1 e
    have g3 : dot g p q = true := less_sub hg.r16 hB.r16 p q hq g1
    have g4 : dot (blobF g x y) p q = true := blob_cl hg h p q hq g2 g3
    rw [dot_lessF hg.r16 hB.r16 hq, g4] at g1
    simp at g1
theorem filter_lt (p q : Nat → Bool) : ∀ (l : List Nat), (∀ j ∈ l, p j = true → q j = true) → (∃ j ∈ l, q j = true ∧ ¬ p j = true) → (l.filter p).length < (l.filter q).length
  | [], _, ⟨j, hj, _⟩ => by cases hj
  | a :: l, h, ⟨k, hk, h1, h2⟩ => by
    have hl : ∀ j ∈ l, p j = true → q j = true := fun j hj => h j (List.mem_cons_of_mem _ hj)
    have le : ∀ (l : List Nat), (∀ j ∈ l, p j = true → q j = true) → (l.filter p).length ≤ (l.filter q).length := by
      intro l
      induction l with
      | nil => intro _; exact Nat.le_refl _
      | cons a l ih =>
        intro h
        have ih := ih fun j hj => h j (List.mem_cons_of_mem _ hj)
        have ha := h a (List.mem_cons_self ..)
        rw [List.filter_cons, List.filter_cons]
        cases e : p a
        · cases e2 : q a <;> simp <;> omega
        · rw [ha e]; simp; omega
    have ha := h a (List.mem_cons_self ..)
    rcases List.mem_cons.1 hk with rfl | hk
    · have := le l hl
      rw [List.filter_cons, List.filter_cons, if_pos h1, if_neg h2, List.length_cons]; omega
    · have := filter_lt p q l hl ⟨k, hk, h1, h2⟩
      rw [List.filter_cons, List.filter_cons]
      cases e : p a
      · cases e2 : q a <;> simp <;> omega
      · rw [ha e]; simp; omega
theorem dots_less {f g : Nat → Int} (hf : R16 f) (hg : R16 g) {k : Nat} (hk : k ∈ dotsF f) (hgk : dot g (k % 12) (k / 12) = true) : (dotsF (lessF f g)).length < (dotsF f).length := by
  unfold dotsF dotsTo at hk ⊢
  refine filter_lt _ _ _ (fun j hj h => ?_) ⟨k, (List.mem_filter.1 hk).1, (List.mem_filter.1 hk).2, ?_⟩
  · have hj := List.mem_range.1 hj
    exact less_sub hf hg _ _ (by omega) h
  · have := List.mem_range.1 (List.mem_filter.1 hk).1
    have e : dot (lessF f g) (k % 12) (k / 12) = false := by rw [dot_lessF hf hg (by omega), hgk]; simp
    simpa using e
/-- The blobs of what is left, one after the other. -/
def bsN : Nat → (Nat → Int) → List (Nat → Int)
  | 0, _ => []
  | n + 1, g => match dotsF g with
    | [] => []
    | k :: _ => blobF g (k % 12 : Nat) (k / 12 : Nat) :: bsN n (lessF g (blobF g (k % 12 : Nat) (k / 12 : Nat)))
theorem first_has {g : Nat → Int} {k : Nat} {r : List Nat} (h : dotsF g = k :: r) : k < 144 ∧ dot g (k % 12) (k / 12) = true ∧ hasF g (k % 12 : Nat) (k / 12 : Nat) = true := by
  have hk : k ∈ dotsF g := by rw [h]; exact List.mem_cons_self ..
  have := mem_dotsF.1 hk
  refine ⟨this.1, this.2, ?_⟩
  unfold hasF
  rw [Bool.and_eq_true, placeB_iff]
  exact ⟨by omega, by rw [Int.toNat_natCast, Int.toNat_natCast]; exact this.2⟩
theorem first_less {g : Nat → Int} (hg : F12 g) {k : Nat} {r : List Nat} (h : dotsF g = k :: r) : (dotsF (lessF g (blobF g (k % 12 : Nat) (k / 12 : Nat)))).length < (dotsF g).length := by
  obtain ⟨h1, h2, h3⟩ := first_has h
  exact dots_less hg.r16 (blob_12 hg _ _).r16 (k := k) (by rw [h]; exact List.mem_cons_self ..) (blob_has hg (by omega) (by omega) h2)
theorem bsN_more {g : Nat → Int} : ∀ {n m : Nat}, F12 g → (dotsF g).length ≤ n → (dotsF g).length ≤ m → bsN n g = bsN m g := by
  intro n
  induction n generalizing g with
  | zero =>
    intro m hg h1 _
    have e : dotsF g = [] := List.length_eq_zero_iff.1 (by omega)
    cases m with
    | zero => rfl
    | succ m => rw [bsN, bsN, e]
  | succ n ih =>
    intro m hg h1 h2
    cases m with
    | zero =>
      have e : dotsF g = [] := List.length_eq_zero_iff.1 (by omega)
      rw [bsN, bsN, e]
    | succ m =>
      rw [bsN, bsN]
      cases e : dotsF g with
      | nil => rfl
      | cons k r =>
        have h3 := first_less hg e
        have hl := lessF_f12 hg (blob_12 hg (k % 12 : Nat) (k / 12 : Nat)).r16
        simp only
        rw [ih hl (m := m) (by omega) (by omega)]
def bsL (g : Nat → Int) : List (Nat → Int) := bsN (dotsF g).length g
theorem bsL_nil {g : Nat → Int} (h : dotsF g = []) : bsL g = [] := by unfold bsL; rw [h]; rfl
theorem bsL_cons {g : Nat → Int} (hg : F12 g) {k : Nat} {r : List Nat} (h : dotsF g = k :: r) : bsL g = blobF g (k % 12 : Nat) (k / 12 : Nat) :: bsL (lessF g (blobF g (k % 12 : Nat) (k / 12 : Nat))) := by
  have h3 := first_less hg h
  have hl := lessF_f12 hg (blob_12 hg (k % 12 : Nat) (k / 12 : Nat)).r16
  unfold bsL
  have hlen : (dotsF g).length = r.length + 1 := by rw [h]; rfl
  rw [hlen, bsN, h]
  simp only
  rw [bsN_more hl (n := r.length) (m := (dotsF (lessF g (blobF g (k % 12 : Nat) (k / 12 : Nat)))).length) (by omega) (Nat.le_refl _)]
theorem bsL_len {g : Nat → Int} (hg : F12 g) : (bsL g).length ≤ (dotsF g).length := by
  have : ∀ n (g : Nat → Int), (bsN n g).length ≤ n := by
    intro n
    induction n with
    | zero => intro g; exact Nat.le_refl _
    | succ n ih =>
      intro g
      rw [bsN]
      cases dotsF g with
      | nil => exact Nat.zero_le _
      | cons k r => exact Nat.succ_le_succ (ih _)
  exact this _ g
end Go.Proofs.Ytpginknbmmdmoaa

