/- Contracts of functions of the translated program, by the walk. -/
import Derived.Test.YtheeehjgmifclaaRc5
import Derived.Test.YtheeehjgmifclaaDr4
import Derived.Test.YtheeehjgmifclaaR1g
import Derived.Test.YtheeehjgmifclaaC5
set_option linter.unusedVariables false
set_option linter.unusedSimpArgs false
set_option maxRecDepth 8000
set_option maxHeartbeats 4000000
namespace Go.Proofs.Ytheeehjgmifclaa
open Go Go.Sx
open Go.RowKit
theorem lessC_12 {f g : Nat → Int} (h : F12 f) : F12 (lessF f g) := fun j hj => by
  have a := h j hj
  unfold lessF
  have e : bits .andNot .u16 (f j) (g j) = IntKind.u16.wrap ((BitVec.ofInt 16 (f j) &&& ~~~(BitVec.ofInt 16 (g j))).toNat : Int) := rfl
  have e2 : (BitVec.ofInt 16 (f j)).toNat = (f j).toNat := by
    obtain ⟨A, hA⟩ := Int.eq_ofNat_of_zero_le a.1
    rw [hA, ofInt_u16 A (by omega)]; rfl
  have := Nat.and_le_left (n := (BitVec.ofInt 16 (f j)).toNat) (m := (~~~(BitVec.ofInt 16 (g j))).toNat)
  rw [e, BitVec.toNat_and, IntKind.wrap_u16]
  omega
theorem joinC_12 {f g : Nat → Int} (h : F12 f) (h2 : F12 g) : F12 (joinF f g) := fun j hj => by
  have a := h j hj
  have b := h2 j hj
  unfold joinF
  rw [u16_or _ _ a.1 (by omega) b.1 (by omega)]
  have := Nat.or_lt_two_pow (n := 12) (x := (f j).toNat) (y := (g j).toNat) (by omega) (by omega)
  omega
theorem movC_12 {f : Nat → Int} (h : F12 f) (e s : Int) : F12 (movI f e s) := fun j hj => by
  unfold movI
  split
  · rename_i hp
    split
    · omega
    · have a := h ((j : Int) - s).toNat (by omega)
      have := Nat.div_le_self (f ((j : Int) - s).toNat).toNat (2 ^ (-e).toNat)
      generalize (f ((j : Int) - s).toNat).toNat / 2 ^ (-e).toNat = q at this ⊢
      omega
  · omega
theorem growC_12 {f : Nat → Int} (h : F12 f) : F12 (growI f) := joinC_12 (joinC_12 (joinC_12 (joinC_12 h (movC_12 h 1 0)) (movC_12 h (-1) 0)) (movC_12 h 0 1)) (movC_12 h 0 (-1))
theorem okF_of {f : Nat → Int} (h : F12 f) : okF f = true := (okF_iff f).2 fun j hj => (h j hj).2
theorem ext12 {f g : Nat → Int} (hf : F12 f) (hg : F12 g) (h : ∀ x y, y < 12 → dot f x y = dot g x y) : rowL .u16 12 f = rowL .u16 12 g :=
  rowL_ext _ _ _ _ (dot_ext hf.r16 hg.r16 fun x y _ hy => h x y hy)
theorem dot_of_eq {f g : Nat → Int} {y : Nat} (h : f y = g y) (x : Nat) : dot f x y = dot g x y := by unfold dot; rw [h]
theorem okC_sub {f g : Nat → Int} (hf : F12 f) (hg : F12 g) : okC f g = true ↔ ∀ x y, y < 12 → dot f x y = true → dot g x y = true := by
  unfold okC
  rw [okF_of hf, okF_of hg, Bool.and_self, Bool.true_and, allEq_iff]
  constructor
  · intro h x y hy hd
    have e : dot (lessF f g) x y = dot zeroF x y := dot_of_eq (h y hy) x
    rw [dot_lessC hf.r16 hg.r16 hy, hd, dot_zero] at e
    simpa using e
  · intro h
    refine dot_ext (lessC_12 hf).r16 zeroF_r16 fun x y _ hy => ?_
    show dot (lessF f g) x y = dot zeroF x y
    rw [dot_lessC hf.r16 hg.r16 hy, dot_zero]
    cases hd : dot f x y
    · rfl
    · rw [h x y hy hd]; rfl
/-- A valid cel. -/
structure CelP (f g : Nat → Int) : Prop where
  ink : F12 f
  cov : F12 g
  ok : okC f g = true
theorem CelP.sub {f g : Nat → Int} (h : CelP f g) : ∀ x y, y < 12 → dot f x y = true → dot g x y = true := (okC_sub h.ink h.cov).1 h.ok
theorem CelP.over {f g f' g' : Nat → Int} (h : CelP f g) (h' : CelP f' g') : CelP (joinF f (lessF f' g)) (joinF g g') := by
  have i := joinC_12 h.ink (lessC_12 (g := g) h'.ink)
  have c := joinC_12 h.cov h'.cov
  refine ⟨i, c, (okC_sub i c).2 fun x y hy hd => ?_⟩
  rw [dot_joinF h.ink.r16 (lessC_12 h'.ink).r16 hy, dot_lessC h'.ink.r16 h.cov.r16 hy] at hd
  rw [dot_joinF h.cov.r16 h'.cov.r16 hy]
  have s1 := h.sub x y hy
  have s2 := h'.sub x y hy
  revert hd s1 s2
  cases dot f x y <;> cases dot g x y <;> cases dot f' x y <;> cases dot g' x y <;> simp
theorem CelP.mov {f g : Nat → Int} (h : CelP f g) (e s : Int) : CelP (movI f e s) (movI g e s) := by
  have i := movC_12 h.ink e s
  have c := movC_12 h.cov e s
  refine ⟨i, c, (okC_sub i c).2 fun x y hy hd => ?_⟩
  rw [dot_movI h.ink hy] at hd
  rw [dot_movI h.cov hy]
  simp only [Bool.and_eq_true] at hd ⊢
  refine ⟨hd.1, hd.2.1, h.sub _ _ ?_ hd.2.2⟩
  have := placeB_iff.1 hd.2.1
  omega
theorem over_assoc {A CA B CB C CC : Nat → Int} (a : CelP A CA) (b : CelP B CB) (c : CelP C CC) :
    rowL .u16 12 (joinF (joinF A (lessF B CA)) (lessF C (joinF CA CB))) = rowL .u16 12 (joinF A (lessF (joinF B (lessF C CB)) CA)) := by
  refine ext12 (joinC_12 (joinC_12 a.ink (lessC_12 b.ink)) (lessC_12 c.ink)) (joinC_12 a.ink (lessC_12 (joinC_12 b.ink (lessC_12 c.ink)))) fun x y hy => ?_
  rw [dot_joinF (joinC_12 a.ink (lessC_12 b.ink)).r16 (lessC_12 c.ink).r16 hy, dot_joinF a.ink.r16 (lessC_12 b.ink).r16 hy, dot_lessC b.ink.r16 a.cov.r16 hy, dot_lessC c.ink.r16 (joinC_12 a.cov b.cov).r16 hy, dot_joinF a.cov.r16 b.cov.r16 hy,
    dot_joinF a.ink.r16 (lessC_12 (joinC_12 b.ink (lessC_12 c.ink))).r16 hy, dot_lessC (joinC_12 b.ink (lessC_12 c.ink)).r16 a.cov.r16 hy, dot_joinF b.ink.r16 (lessC_12 c.ink).r16 hy, dot_lessC c.ink.r16 b.cov.r16 hy]
  cases dot A x y <;> cases dot B x y <;> cases dot C x y <;> cases dot CA x y <;> cases dot CB x y <;> rfl
theorem cov_assoc {CA CB CC : Nat → Int} (a : F12 CA) (b : F12 CB) (c : F12 CC) : rowL .u16 12 (joinF (joinF CA CB) CC) = rowL .u16 12 (joinF CA (joinF CB CC)) := by
  refine ext12 (joinC_12 (joinC_12 a b) c) (joinC_12 a (joinC_12 b c)) fun x y hy => ?_
  rw [dot_joinF (joinC_12 a b).r16 c.r16 hy, dot_joinF a.r16 b.r16 hy, dot_joinF a.r16 (joinC_12 b c).r16 hy, dot_joinF b.r16 c.r16 hy, Bool.or_assoc]
theorem over_self {A CA : Nat → Int} (a : CelP A CA) : rowL .u16 12 (joinF A (lessF A CA)) = rowL .u16 12 A := by
  refine ext12 (joinC_12 a.ink (lessC_12 a.ink)) a.ink fun x y hy => ?_
  rw [dot_joinF a.ink.r16 (lessC_12 a.ink).r16 hy, dot_lessC a.ink.r16 a.cov.r16 hy]
  cases dot A x y <;> cases dot CA x y <;> rfl
theorem join_self {CA : Nat → Int} (a : F12 CA) : rowL .u16 12 (joinF CA CA) = rowL .u16 12 CA := by
  refine ext12 (joinC_12 a a) a fun x y hy => ?_
  rw [dot_joinF a.r16 a.r16 hy, Bool.or_self]
theorem join_ink {A CA : Nat → Int} (a : CelP A CA) : rowL .u16 12 (joinF A CA) = rowL .u16 12 CA := by
  refine ext12 (joinC_12 a.ink a.cov) a.cov fun x y hy => ?_
  rw [dot_joinF a.ink.r16 a.cov.r16 hy]
  have := a.sub x y hy
  revert this
  cases dot A x y <;> cases dot CA x y <;> simp
theorem mov_over {A CA B CB : Nat → Int} (a : CelP A CA) (b : CelP B CB) (e s : Int) :
    rowL .u16 12 (movI (joinF A (lessF B CA)) e s) = rowL .u16 12 (joinF (movI A e s) (lessF (movI B e s) (movI CA e s))) := by
  have j := joinC_12 a.ink (lessC_12 (g := CA) b.ink)
  have mA := movC_12 a.ink e s
  have mB := movC_12 b.ink e s
  have mC := movC_12 a.cov e s
  refine ext12 (movC_12 j e s) (joinC_12 mA (lessC_12 mB)) fun x y hy => ?_
  rw [dot_movI j hy, dot_joinF mA.r16 (lessC_12 mB).r16 hy, dot_lessC mB.r16 mC.r16 hy, dot_movI a.ink hy, dot_movI b.ink hy, dot_movI a.cov hy]
  cases hp : placeB ((x : Int) - e) ((y : Int) - s)
  · simp
  · have := placeB_iff.1 hp
    rw [dot_joinF a.ink.r16 (lessC_12 b.ink).r16 (by omega), dot_lessC b.ink.r16 a.cov.r16 (by omega)]
    cases (decide (x < 12) && decide (y < 12)) <;> simp
theorem mov_join {CA CB : Nat → Int} (a : F12 CA) (b : F12 CB) (e s : Int) : rowL .u16 12 (movI (joinF CA CB) e s) = rowL .u16 12 (joinF (movI CA e s) (movI CB e s)) := by
  have j := joinC_12 a b
  refine ext12 (movC_12 j e s) (joinC_12 (movC_12 a e s) (movC_12 b e s)) fun x y hy => ?_
  rw [dot_movI j hy, dot_joinF (movC_12 a e s).r16 (movC_12 b e s).r16 hy, dot_movI a hy, dot_movI b hy]
  cases hp : placeB ((x : Int) - e) ((y : Int) - s)
  · simp
  · have := placeB_iff.1 hp
    rw [dot_joinF a.r16 b.r16 (by omega)]
    cases (decide (x < 12) && decide (y < 12)) <;> simp
theorem mvC_ok {A CA : Nat → Int} (a : CelP A CA) {e s : Int} (he : -12 ≤ e ∧ e ≤ 12) (hs : -12 ≤ s ∧ s ≤ 12) : mvC A CA e s = 0 := by
  unfold mvC
  rw [if_pos a.ok]
  unfold wayC
  rw [if_pos (okF_of a.ink)]
  simp; omega
theorem cx_cel_good (f g : Nat → Int) : goodT 12 (cxL f g 156) := by
  refine (good_idx 12 _).2 ⟨cxL_len _ _ _, fun k hk => ?_⟩
  have e : (cxL f g 156)[k]? = some (cxB f g k) := by
    unfold cxL
    rw [List.getElem?_map, List.getElem?_range (by omega)]; rfl
  rw [e]
  unfold cxB
  by_cases h : k % 13 = 12
  · rw [if_pos h, if_pos h]
  · rw [if_neg h, if_neg h]
    refine ⟨_, rfl, ?_⟩
    unfold okCh
    split
    · exact .inl rfl
    · split
      · exact .inr (.inl rfl)
      · exact .inr (.inr rfl)
theorem chA_cx {f g : Nat → Int} {x y : Nat} (hx : x < 12) (hy : y < 12) : chA (cxL f g 156) (y * 12 + x) = if dot f x y = true then 35 else if dot g x y = true then 111 else 46 := by
  unfold chA cxL
  rw [show 13 * ((y * 12 + x) / 12) + (y * 12 + x) % 12 = 13 * y + x by omega, List.getElem?_map, List.getElem?_range (by omega)]
  show cxB f g (13 * y + x) = _
  unfold cxB
  rw [if_neg (by omega), show (13 * y + x) % 13 = x by omega, show (13 * y + x) / 13 = y by omega]
theorem rcF_cx {f g : Nat → Int} (h : CelP f g) : rowL .u16 12 (rcF' (cxL f g 156)) = rowL .u16 12 f := by
  rw [(rc_good (cx_cel_good f g)).1]
  apply rowL_ext
  refine dot_ext (whP_16 _ _) h.ink.r16 fun x y _ hy => ?_
  unfold rcF
  rw [dot_whP _ hy _ (Nat.le_refl _)]
  rcases Nat.lt_or_ge x 12 with hx | hx
  · unfold isC
    rw [chA_cx hx hy, decide_eq_true hx, decide_eq_true (show y * 12 + x < 144 by omega)]
    cases dot f x y <;> cases dot g x y <;> simp
  · rw [decide_eq_false (by omega), h.ink.bit hy hx]; rfl
theorem rcG_cx {f g : Nat → Int} (h : CelP f g) : rowL .u16 12 (rcG' (cxL f g 156)) = rowL .u16 12 g := by
  rw [(rc_good (cx_cel_good f g)).2.1]
  apply rowL_ext
  refine dot_ext (whP_16 _ _) h.cov.r16 fun x y _ hy => ?_
  unfold rcG
  rw [dot_whP _ hy _ (Nat.le_refl _)]
  rcases Nat.lt_or_ge x 12 with hx | hx
  · unfold isK
    have := h.sub x y hy
    rw [chA_cx hx hy, decide_eq_true hx, decide_eq_true (show y * 12 + x < 144 by omega)]
    revert this
    cases dot f x y <;> cases dot g x y <;> simp
  · rw [decide_eq_false (by omega), h.cov.bit hy hx]; rfl
theorem joinF_app (f g : Nat → Int) (j : Nat) : joinF f g j = bits .or .u16 (f j) (g j) := rfl
theorem lessF_app (f g : Nat → Int) (j : Nat) : lessF f g j = bits .andNot .u16 (f j) (g j) := rfl
end Go.Proofs.Ytheeehjgmifclaa

