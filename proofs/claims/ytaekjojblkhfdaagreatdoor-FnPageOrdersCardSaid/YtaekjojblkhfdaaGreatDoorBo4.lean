/- Contracts of functions of the translated program, by the walk. -/
import Derived.Test.YtaekjojblkhfdaaGreatDoorBo3
set_option linter.unusedVariables false
set_option linter.unusedSimpArgs false
set_option maxRecDepth 8000
set_option maxHeartbeats 16000000
namespace Go.Proofs.YtaekjojblkhfdaaGreatDoor
open Go Go.Sx
theorem at_seto {H : List Blk} {i off j : Nat} {cs : List V} {b B : Blk} (h : At H i off cs b) (hne : i ≠ j) : At (H.set j B) i off cs b := ⟨by rw [List.getElem?_set_ne (by omega)]; exact h.get, h.live, h.sg⟩
def leX : SS → Int
  | some (_, x) => x
  | none => 0
def bvS (st : SS) (bv : V) : Prop := match st with | none => bv = .v (.slice none 0 0) | some _ => ∃ i o l c, bv = .s i o l c
theorem bvS_none {st : SS} {bv : V} (h : bvS st bv) (hs : st = none) : bv = .v (.slice none 0 0) := by subst hs; exact h
theorem bvS_some {st : SS} {bv : V} (h : bvS st bv) (hs : st ≠ none) : ∃ i o l c, bv = .s i o l c := by
  cases st with
  | none => exact absurd rfl hs
  | some q => exact h
theorem bvS_s {st : SS} (hs : st ≠ none) (i o l : Nat) (c : Cap) : bvS st (.s i o l c) := by
  cases st with
  | none => exact absurd rfl hs
  | some q => exact ⟨i, o, l, c, rfl⟩
theorem cut_factsX {n : Nat} {s : Int} {st : SS} (hst : okS n st) : (cutS s st = true → st ≠ none ∧ (leX st ≤ s) = True) ∧ (cutS s st = false → st = none ∨ (st ≠ none ∧ (leX st ≤ s) = False)) := by
  cases st with
  | none => exact ⟨fun h => (by cases h), fun _ => .inl rfl⟩
  | some q =>
    obtain ⟨b, x⟩ := q
    exact ⟨fun h => ⟨by simp, eq_true (by simpa [cutS, leX] using h)⟩, fun h => .inr ⟨by simp, eq_false (by simpa [cutS, leX] using h)⟩⟩
theorem leX_range {n : Nat} {st : SS} (h : okS n st) : 0 ≤ leX st ∧ leX st ≤ 1152 := by
  cases st with
  | none => simp [leX]
  | some q => have := h q.1 q.2 rfl; simp only [leX]; omega
def hpS (H : List Blk) (bs n : Nat) (vb : V) (ty t : TypeId) (st st' : SS) : List Blk := if st' = st then H else H.set bs ⟨[vb, .s H.length 0 n (.u 0), .v (.int .i64 (leX st'))], ty, .fix⟩ ++ [⟨(beL st').flatMap i64C, t, .own 1⟩]
theorem hpS_self (H : List Blk) (bs n : Nat) (vb : V) (ty t : TypeId) (st : SS) : hpS H bs n vb ty t st st = H := if_pos rfl
theorem hpS_same {H : List Blk} {bs n : Nat} {vb : V} {ty t : TypeId} {st st' : SS} (h : st' = st) : hpS H bs n vb ty t st st' = H := if_pos h
theorem hpS_new {H : List Blk} {bs n : Nat} {vb : V} {ty t : TypeId} {st st' : SS} (h : st' ≠ st) : hpS H bs n vb ty t st st' = H.set bs ⟨[vb, .s H.length 0 n (.u 0), .v (.int .i64 (leX st'))], ty, .fix⟩ ++ [⟨(beL st').flatMap i64C, t, .own 1⟩] := if_neg h
theorem leX_some (b : List Int) (x : Int) : leX (some (b, x)) = x := rfl
theorem beL_some (b : List Int) (x : Int) : beL (some (b, x)) = b := rfl
theorem norefH_set {H : List Blk} {i : Nat} {B : Blk} (hw : HWf H) (hi : i < H.length) (hB : norefs (H.length + 1) B.cells = true) : norefH (H.length + 1) (H.set i B) := fun b hb => by
  rcases List.mem_or_eq_of_mem_set hb with h | rfl
  · exact norefH_wf hw (by omega) b h
  · exact hB
theorem from_ok {l : List (Nat → Int)} {n : Nat} (hn : n = l.length) (h8 : n ≤ 8) (h1n : 1 ≤ n) (h12 : ∀ f ∈ l, F12 f) : ∀ (f : Nat) {H : List Blk} {i0 off bs ib offb : Nat} {cv cb : Cap} {b bb : Blk} {bv : V} {ty : TypeId} {o : List Int} {s : Int} {st : SS} (hat : At H i0 off (o.flatMap i64C) b) (hfit : off + o.length ≤ b.cells.length) (hi0 : i0 ≠ bs) (hoI : okI l o) (hof : o.length + f = n) (hs0 : 0 ≤ s) (hs1 : s ≤ 144 * o.length) (hst : okS n st) (hbt : At H ib offb (l.flatMap (rowL .u16 12)) bb) (hbf : offb + l.length * 12 ≤ bb.cells.length) (hib : ib ≠ bs) (hbs : H[bs]? = some ⟨[.s ib offb l.length cb, bv, .v (.int .i64 (leX st))], ty, .fix⟩) (hbv : bvS st bv),
    Cal Tryz.prog 44 [.p bs 0, .s i0 off o.length cv, .v (.int .i64 s)] H fun u H' => u = .t [] ∧ H' = hpS H bs n (.s ib offb l.length cb) ty 2 st (srch l n f o s st) := by
  intro f
  induction f with
  | zero =>
    intro H i0 off bs ib offb cv cb b bb bv ty o s st hat hfit hi0 hoI hof hs0 hs1 hst hbt hbf hib hbs hbv
    have hfl : (o.flatMap i64C).length = o.length := by rw [flat_i64.flen, Nat.mul_one]
    have hcf := cut_factsX (s := s) hst
    have hil := hat.lt
    have hibl := hbt.lt
    have hbl := (List.getElem?_eq_some_iff.1 hbs).1
    have hlx := leX_range hst
    have hsa : ∀ (L : List Blk) (B : Blk), (H ++ L).set bs B = H.set bs B ++ L := fun L B => List.set_append_left bs B hbl
    have hsg : ∀ (L : List Blk) (B : Blk), (H.set bs B ++ L)[bs]? = some B := fun L B => by rw [List.getElem?_append_left (by simpa using hbl), List.getElem?_set_self hbl]
    have hsa2 : ∀ (L : List Blk) (B B' : Blk), (H.set bs B ++ L).set bs B' = H.set bs B' ++ L := fun L B B' => by rw [List.set_append_left bs B' (by simpa using hbl), List.set_set]
    have hrd : Rd H (.s i0 off o.length cv) i64C o := .inr ⟨i0, off, cv, b, rfl, hat, by rw [hfl]; exact hfit⟩
    cases hcut : cutS s st
    case true =>
      rw [srch_zero, if_pos hcut, hpS_self]
      obtain ⟨c1, c2⟩ := hcf.1 hcut
      obtain ⟨qi, qo, ql, qc, rfl⟩ := bvS_some hbv c1
      refine cal_fn 81 mixed Tryz.func44 Tryz.ntmps44 Tryz.results44 rfl rfl rfl fun hw cx hx hq => ?_
      repeat ((simp only [go_sem, Int.reduceLT, Int.reduceLE, Int.reduceEq, Int.reduceToNat, hbs, hat.get, c2]) )
      refine ret_same hq _ (.inl rfl) ?_
      simp [go_sem]
    have e3 : ((o.length : Int) = (l.length : Int)) = True := eq_true (by omega)
    have hne := srch_new (o := o) hcut
    rw [srch_zero, if_neg (by rw [hcut]; simp), hpS_new hne]
    have hon : o.length = n := by omega
    rcases hcf.2 hcut with c1 | ⟨c1, c2⟩
    · obtain rfl := bvS_none hbv c1
      refine cal_fn 81 mixed Tryz.func44 Tryz.ntmps44 Tryz.results44 rfl rfl rfl fun hw cx hx hq => ?_
      repeat (first | (simp only [go_sem, Int.reduceLT, Int.reduceLE, Int.reduceEq, Int.reduceToNat, hbs, (get_app hbs), hat.get, e3, hbl, hsa, hsa2, hsg, List.set_set]) | ((with_reducible refine isSK ?_); refine call_ret (cloneI hat (by rw [hfl]; exact hfit) (by omega)) ?_ ?_) )
      refine ret_at hq _ (.inl rfl) (by simp) ?_
      simp [go_sem, leX_some, beL_some, hon]
    · obtain ⟨qi, qo, ql, qc, rfl⟩ := bvS_some hbv c1
      refine cal_fn 81 mixed Tryz.func44 Tryz.ntmps44 Tryz.results44 rfl rfl rfl fun hw cx hx hq => ?_
      repeat (first | (simp only [go_sem, Int.reduceLT, Int.reduceLE, Int.reduceEq, Int.reduceToNat, hbs, (get_app hbs), hat.get, c2, e3, hbl, hsa, hsa2, hsg, List.set_set]) | ((with_reducible refine isSK ?_); refine call_ret (cloneI hat (by rw [hfl]; exact hfit) (by omega)) ?_ ?_) )
      refine ret_at hq _ (.inl rfl) (by simp) ?_
      simp [go_sem, leX_some, beL_some, hon]
  | succ f ih =>
    intro H i0 off bs ib offb cv cb b bb bv ty o s st hat hfit hi0 hoI hof hs0 hs1 hst hbt hbf hib hbs hbv
    have hfl : (o.flatMap i64C).length = o.length := by rw [flat_i64.flen, Nat.mul_one]
    have hcf := cut_factsX (s := s) hst
    have hil := hat.lt
    have hibl := hbt.lt
    have hbl := (List.getElem?_eq_some_iff.1 hbs).1
    have hlx := leX_range hst
    have hsa : ∀ (L : List Blk) (B : Blk), (H ++ L).set bs B = H.set bs B ++ L := fun L B => List.set_append_left bs B hbl
    have hsg : ∀ (L : List Blk) (B : Blk), (H.set bs B ++ L)[bs]? = some B := fun L B => by rw [List.getElem?_append_left (by simpa using hbl), List.getElem?_set_self hbl]
    have hsa2 : ∀ (L : List Blk) (B B' : Blk), (H.set bs B ++ L).set bs B' = H.set bs B' ++ L := fun L B B' => by rw [List.set_append_left bs B' (by simpa using hbl), List.set_set]
    have hrd : Rd H (.s i0 off o.length cv) i64C o := .inr ⟨i0, off, cv, b, rfl, hat, by rw [hfl]; exact hfit⟩
    cases hcut : cutS s st
    case true =>
      rw [srch_succ, if_pos hcut, hpS_self]
      obtain ⟨c1, c2⟩ := hcf.1 hcut
      obtain ⟨qi, qo, ql, qc, rfl⟩ := bvS_some hbv c1
      refine cal_fn 81 mixed Tryz.func44 Tryz.ntmps44 Tryz.results44 rfl rfl rfl fun hw cx hx hq => ?_
      repeat ((simp only [go_sem, Int.reduceLT, Int.reduceLE, Int.reduceEq, Int.reduceToNat, hbs, hat.get, c2]) )
      refine ret_same hq _ (.inl rfl) ?_
      simp [go_sem]
    have e3 : ((o.length : Int) = (l.length : Int)) = False := eq_false (by omega)
    rw [srch_succ, if_neg (by rw [hcut]; simp)]
    rcases hcf.2 hcut with c1 | ⟨c1, c2⟩
    · obtain rfl := bvS_none hbv c1
      refine cal_fn 81 mixed Tryz.func44 Tryz.ntmps44 Tryz.results44 rfl rfl rfl fun hw cx hx hq => ?_
      repeat ((simp only [go_sem, Int.reduceLT, Int.reduceLE, Int.reduceEq, Int.reduceToNat, hbs, hat.get, e3]) )
      refine WK_for (fun c : Nat => ⟨[.p bs 0, .s i0 off o.length cv, .v (.int .i64 s), .any, .any, .any, .any, .any, .any, .any, .any, .any, .any, .any, .any, .any, .any, .any, .any, .any, .any, .any, .any, .any, .any, .any, .any, .any, .any, .any, .any, .any, .any, .any, .any, .any, .any, .any, .any, .any, .any, .any, .any, .v (.int .i64 l.length), .v (.int .i64 c)] ++ junk 39, hpS H bs n (.s ib offb l.length cb) ty 2 st (srK l n f o s st c)⟩) (fun c => c ≤ n) (fun c => n - c) 0 ?_ (Nat.zero_le _) fun c hc => ?_
      · simp only [srK, hpS_self]
        exact Weak.slots (by simp [go_sem])
      have himp := srK_imp (l := l) (st := st) (f := f) h8 (by omega) hs0 hs1 c
      have hokK := impS_ok himp hst
      have hsc : srK l n f o s st (c + 1) = if hasI o c = true then srK l n f o s st c else srch l n f (o ++ [(c : Int)]) (s + moreJ l o c) (srK l n f o s st c) := rfl
      have hrdL : Rd (hpS H bs n (.s ib offb l.length cb) ty 2 st (srK l n f o s st c)) (.s i0 off o.length cv) i64C o := by
        unfold hpS
        split
        · exact hrd
        · exact .inr ⟨i0, off, cv, b, rfl, (at_seto hat hi0).app, by rw [hfl]; exact hfit⟩
      rcases Int.lt_or_le (c : Int) n with hcl | hcl
      · have hcn : ((c : Int) < (l.length : Int)) = True := eq_true (by omega)
        generalize hK : srK l n f o s st c = K at himp hokK hsc hrdL ⊢
        cases hin : hasI o c
        · rw [hin, if_neg (by simp)] at hsc
          have hmr := moreJ_range l o c
          have himp2 := srch_imp (l := l) (st := K) h8 f (o ++ [(c : Int)]) (s + moreJ l o c) (by simp; omega) (by omega) (by simp; omega)
          have ih1 : ∀ {H : List Blk} {i0 : Nat} {cv : Cap} {b : Blk} {bv : V} (_ : At H i0 0 ((o ++ [(c : Int)]).flatMap i64C) b) (_ : i0 ≠ bs) (_ : At H ib offb (l.flatMap (rowL .u16 12)) bb) (_ : H[bs]? = some ⟨[.s ib offb l.length cb, bv, .v (.int .i64 (leX K))], ty, .fix⟩) (_ : bvS K bv), Cal Tryz.prog 44 [.p bs 0, .s i0 0 (o.length + 1) cv, .v (.int .i64 (s + moreJ l o c))] H fun u H' => u = .t [] ∧ H' = hpS H bs n (.s ib offb l.length cb) ty 2 K (srch l n f (o ++ [(c : Int)]) (s + moreJ l o c) K) := fun a1 a2 a3 a4 a5 => by
            have := ih (s := s + moreJ l o c) (cv := ‹Cap›) a1 (by have := a1.len0; rw [flat_i64.flen] at this; omega) a2 (okI_snoc hoI (by omega)) (by simp; omega) (by omega) (by simp; omega) hokK a3 hbf hib a4 a5
            rwa [show (o ++ [(c : Int)]).length = o.length + 1 by simp] at this
          generalize srch l n f (o ++ [(c : Int)]) (s + moreJ l o c) K = S2 at ih1 hsc himp2
          have hfl2 : (o ++ [(c : Int)]).length = o.length + 1 := by simp
          have hfs : o.flatMap i64C ++ [V.v (.int .i64 (c : Int))] = (o ++ [(c : Int)]).flatMap i64C := by simp [i64C]
          have hnr := fun (m : Nat) (L : List Int) => flat_i64.norefs m L
          have hlts := fun (m : Nat) (L : List Int) => flat_i64.lts m L
          have hbl0 := hbl
          by_cases hk : K = st
          · rw [hpS_same hk]
            have hbsK := hbs
            have hbvK := hbv
            rw [← hk] at hbsK hbvK
            have hij : (i0 = H.length) = False := eq_false (by omega)
            have hij1 : (i0 = H.length + 1) = False := eq_false (by omega)
            have hib0 : (ib = H.length) = False := eq_false (by omega)
            have hib1 : (ib = H.length + 1) = False := eq_false (by omega)
            have hbs0 : (bs = H.length) = False := eq_false (by omega)
            have hbs1 : (bs = H.length + 1) = False := eq_false (by omega)
            have hil3 : (i0 < H.length) = True := eq_true (by omega)
            have hd1 : (H.length + 1 = H.length) = False := eq_false (by omega)
            have hd2 : (H.length = H.length + 1) = False := eq_false (by omega)
            have hn1 : norefH H.length H := norefH_wf hw (Nat.le_refl _)
            rcases List.eq_nil_or_concat o with hoe | ⟨o', p, hoe⟩
            · have e0 : ((0 : Int) < (o.length : Int)) = False := eq_false (by rw [hoe]; simp)
              have hmj : moreJ l o c = 0 := by rw [hoe]; rfl
              rw [hmj, Int.add_zero] at ih1
              by_cases hr : S2 = K
              · have hr' := hr.symm
                subst hr'
                simp only [hpS_self] at ih1
                repeat (first | (simp only [go_sem, Int.reduceLT, Int.reduceLE, Int.reduceEq, Int.reduceToNat, hcn, hin, get_app hat.get, get_app hbsK, get_app hbt.get, hbt.get, hat.get, hbsK, hat.live, hbt.live, hx, hil3, hij, hij1, hib0, hib1, hbs0, hbs1, hfl, hfl2, hfs, hn1, hnr, hd1, hd2, hmj, hsa, hsg, hsa2, Int.toNat_natCast, Int.add_zero, e0]) | ((with_reducible refine And.intro ?_ ?_); omega) | ((with_reducible refine isSK ?_); first | refine call_ret (slicesHas (l := o) hrd (by omega)) ?_ ?_ | refine call_ret (cloneI hat (by rw [hfl]; exact hfit) (by omega)) ?_ ?_ | refine call_ret (ih1 (by exact At.mk0 rfl ) (by omega) hbt.app (get_app hbsK) hbvK) ?_ ?_) )
                refine EK_again (c + 1) ?_ (by omega) (by omega)
                rw [hsc, hpS_same hk]
                exact Weak.both rfl (by simp [go_sem]) (by simp [hx]) (by simp [go_sem, hil, hbl0] <;> omega) hw 
              · simp only [hpS_new hr] at ih1
                repeat (first | (simp only [go_sem, Int.reduceLT, Int.reduceLE, Int.reduceEq, Int.reduceToNat, hcn, hin, get_app hat.get, get_app hbsK, get_app hbt.get, hbt.get, hat.get, hbsK, hat.live, hbt.live, hx, hil3, hij, hij1, hib0, hib1, hbs0, hbs1, hfl, hfl2, hfs, hn1, hnr, hd1, hd2, hmj, hsa, hsg, hsa2, Int.toNat_natCast, Int.add_zero, e0]) | ((with_reducible refine And.intro ?_ ?_); omega) | ((with_reducible refine isSK ?_); first | refine call_ret (slicesHas (l := o) hrd (by omega)) ?_ ?_ | refine call_ret (cloneI hat (by rw [hfl]; exact hfit) (by omega)) ?_ ?_ | refine call_ret (ih1 (by exact At.mk0 rfl ) (by omega) hbt.app (get_app hbsK) hbvK) ?_ ?_) )
                refine EK_again (c + 1) ?_ (by omega) (by omega)
                rw [hsc, hpS_new (hk ▸ hr)]
                exact Weak.pickS [some 2] (by simp [go_sem, hibl]) (by simp [go_sem, hlts]) (by decide) (by simp [hx]) hw (by simp [go_sem, hil, hbl0] <;> omega)
            · have hop1 : o.length = o'.length + 1 := by rw [hoe]; simp
              have e0 : ((0 : Int) < (o.length : Int)) = True := eq_true (by omega)
              have hmj : moreJ l o c = jmp l p.toNat c := by rw [hoe, List.concat_eq_append]; unfold moreJ; rw [List.getLast?_concat]
              rw [hmj] at ih1 hmr
              have hpI := hoI p (by rw [hoe]; simp)
              have hce := hat.i64 (j := o.length - 1) (by omega)
              have hpe : o[o.length - 1]'(by omega) = p := by simp [hoe]
              rw [hpe] at hce
              have tk : ((o.length : Int) - 1).toNat = o.length - 1 := by omega
              have p1 := hbt.elem (rowL .u16 12) 12 hz12 (show p.toNat < l.length by omega)
              have p2 := hbt.elem (rowL .u16 12) 12 hz12 (show c < l.length by omega)
              rw [← pg_at (show p.toNat < l.length by omega)] at p1
              rw [← pg_at (show c < l.length by omega)] at p2
              have hjm : jumpF (pg l p.toNat) (pg l c) = jmp l p.toNat c := rfl
              by_cases hr : S2 = K
              · have hr' := hr.symm
                subst hr'
                simp only [hpS_self] at ih1
                repeat (first | (simp only [go_sem, Int.reduceLT, Int.reduceLE, Int.reduceEq, Int.reduceToNat, hcn, hin, get_app hat.get, get_app hbsK, get_app hbt.get, hbt.get, hat.get, hbsK, hat.live, hbt.live, hx, hil3, hij, hij1, hib0, hib1, hbs0, hbs1, hfl, hfl2, hfs, hn1, hnr, hd1, hd2, hmj, hsa, hsg, hsa2, Int.toNat_natCast, Int.add_zero, e0, hce, tk, p1, p2, hjm]) | ((with_reducible refine And.intro ?_ ?_); omega) | ((with_reducible refine isSK ?_); first | refine call_ret (slicesHas (l := o) hrd (by omega)) ?_ ?_ | refine call_ret (cloneI hat (by rw [hfl]; exact hfit) (by omega)) ?_ ?_ | refine call_ret (jump (pg_12 h12 _) (pg_12 h12 _)) ?_ ?_ | refine call_ret (ih1 (by exact At.mk0 rfl ) (by omega) hbt.app (get_app hbsK) hbvK) ?_ ?_) | ((with_reducible refine isWKr (id := 10) ?_); refine WK_drawUp 10 [[],[0],[0,1],[0,1,2],[],[],[5],[4,5,6],[4,5,6,7],[0,1,2,3,4,5,6,7,8],[0,1,2,3,4,5,6,7,8,9],[],[11],[11,12],[11,12,13],[],[11,12,13,14,15],[11,12,13,14,15,16],[0,1,2,3,4,5,6,7,8,9,10,11,12,13,14,15,16,17],[0,1,2,3,4,5,6,7,8,9,10,11,12,13,14,15,16,17,18]] 18 (by kernel_rfl) ?_; dsimp only [List.take, List.drop]) )
                refine EK_again (c + 1) ?_ (by omega) (by omega)
                rw [hsc, hpS_same hk]
                exact Weak.both rfl (by simp [go_sem]) (by simp [hx]) (by simp [go_sem, hil, hbl0] <;> omega) hw 
              · simp only [hpS_new hr] at ih1
                repeat (first | (simp only [go_sem, Int.reduceLT, Int.reduceLE, Int.reduceEq, Int.reduceToNat, hcn, hin, get_app hat.get, get_app hbsK, get_app hbt.get, hbt.get, hat.get, hbsK, hat.live, hbt.live, hx, hil3, hij, hij1, hib0, hib1, hbs0, hbs1, hfl, hfl2, hfs, hn1, hnr, hd1, hd2, hmj, hsa, hsg, hsa2, Int.toNat_natCast, Int.add_zero, e0, hce, tk, p1, p2, hjm]) | ((with_reducible refine And.intro ?_ ?_); omega) | ((with_reducible refine isSK ?_); first | refine call_ret (slicesHas (l := o) hrd (by omega)) ?_ ?_ | refine call_ret (cloneI hat (by rw [hfl]; exact hfit) (by omega)) ?_ ?_ | refine call_ret (jump (pg_12 h12 _) (pg_12 h12 _)) ?_ ?_ | refine call_ret (ih1 (by exact At.mk0 rfl ) (by omega) hbt.app (get_app hbsK) hbvK) ?_ ?_) | ((with_reducible refine isWKr (id := 10) ?_); refine WK_drawUp 10 [[],[0],[0,1],[0,1,2],[],[],[5],[4,5,6],[4,5,6,7],[0,1,2,3,4,5,6,7,8],[0,1,2,3,4,5,6,7,8,9],[],[11],[11,12],[11,12,13],[],[11,12,13,14,15],[11,12,13,14,15,16],[0,1,2,3,4,5,6,7,8,9,10,11,12,13,14,15,16,17],[0,1,2,3,4,5,6,7,8,9,10,11,12,13,14,15,16,17,18]] 18 (by kernel_rfl) ?_; dsimp only [List.take, List.drop]) )
                refine EK_again (c + 1) ?_ (by omega) (by omega)
                rw [hsc, hpS_new (hk ▸ hr)]
                exact Weak.pickS [some 2] (by simp [go_sem, hibl]) (by simp [go_sem, hlts]) (by decide) (by simp [hx]) hw (by simp [go_sem, hil, hbl0] <;> omega)
          · rw [hpS_new hk]
            have hKl : (beL K).length = n := beL_len hokK (fun e => by subst e; exact hk (impS_none himp))
            have hKn : K ≠ none := fun e => by subst e; exact hk (impS_none himp)
            obtain ⟨G, hG⟩ : ∃ G, G = H.set bs ⟨[.s ib offb l.length cb, .s H.length 0 n (.u 0), .v (.int .i64 (leX K))], ty, .fix⟩ := ⟨_, rfl⟩
            rw [← hG]
            have hGl : G.length = H.length := by rw [hG, List.length_set]
            have hxG : cx.n0 = G.length := by rw [hGl]; exact hx
            have hatG : At G i0 off (o.flatMap i64C) b := by rw [hG]; exact at_seto hat hi0
            have hbtG : At G ib offb (l.flatMap (rowL .u16 12)) bb := by rw [hG]; exact at_seto hbt hib
            have hrdG : Rd G (.s i0 off o.length cv) i64C o := .inr ⟨i0, off, cv, b, rfl, hatG, by rw [hfl]; exact hfit⟩
            have hbsG : G[bs]? = some ⟨[.s ib offb l.length cb, .s G.length 0 n (.u 0), .v (.int .i64 (leX K))], ty, .fix⟩ := by rw [hGl, hG, List.getElem?_set_self hbl]
            have hbl : bs < G.length := by omega
            have hsa : ∀ (L : List Blk) (B : Blk), (G ++ L).set bs B = G.set bs B ++ L := fun L B => List.set_append_left bs B hbl
            have hsg : ∀ (L : List Blk) (B : Blk), (G.set bs B ++ L)[bs]? = some B := fun L B => by rw [List.getElem?_append_left (by simpa using hbl), List.getElem?_set_self hbl]
            have hsa2 : ∀ (L : List Blk) (B B' : Blk), (G.set bs B ++ L).set bs B' = G.set bs B' ++ L := fun L B B' => by rw [List.set_append_left bs B' (by simpa using hbl), List.set_set]
            have hij : (i0 = G.length) = False := eq_false (by omega)
            have hij1 : (i0 = G.length + 1) = False := eq_false (by omega)
            have hib0 : (ib = G.length) = False := eq_false (by omega)
            have hib1 : (ib = G.length + 1) = False := eq_false (by omega)
            have hbs0 : (bs = G.length) = False := eq_false (by omega)
            have hbs1 : (bs = G.length + 1) = False := eq_false (by omega)
            have hil3 : (i0 < G.length) = True := eq_true (by omega)
            have hd1 : (G.length + 1 = G.length) = False := eq_false (by omega)
            have hd2 : (G.length = G.length + 1) = False := eq_false (by omega)
            have hn1 : norefH (G.length + 1) G := by rw [hGl, hG]; exact norefH_set hw hbl0 (by simp [go_sem, norefs, V.noref] <;> omega)
            rcases List.eq_nil_or_concat o with hoe | ⟨o', p, hoe⟩
            · have e0 : ((0 : Int) < (o.length : Int)) = False := eq_false (by rw [hoe]; simp)
              have hmj : moreJ l o c = 0 := by rw [hoe]; rfl
              rw [hmj, Int.add_zero] at ih1
              by_cases hr : S2 = K
              · have hr' := hr.symm
                subst hr'
                simp only [hpS_self] at ih1
                repeat (first | (simp only [go_sem, Int.reduceLT, Int.reduceLE, Int.reduceEq, Int.reduceToNat, hcn, hin, get_app hatG.get, get_app hbsG, get_app hbtG.get, hbtG.get, hatG.get, hbsG, hat.live, hbt.live, hxG, hil3, hij, hij1, hib0, hib1, hbs0, hbs1, hfl, hfl2, hfs, hn1, hnr, hd1, hd2, hmj, hsa, hsg, hsa2, Int.toNat_natCast, Int.add_zero, e0]) | ((with_reducible refine And.intro ?_ ?_); omega) | ((with_reducible refine isSK ?_); first | refine call_ret (slicesHas (l := o) hrdG.app (by omega)) ?_ ?_ | refine call_ret (cloneI hatG.app (by rw [hfl]; exact hfit) (by omega)) ?_ ?_ | refine call_ret (ih1 (by exact At.mk' 1 rfl rfl ) (by omega) hbtG.app (get_app hbsG) (bvS_s hKn _ _ _ _)) ?_ ?_) )
                refine EK_again (c + 1) ?_ (by omega) (by omega)
                rw [hsc, hpS_new hk]
                simp only [hG]
                exact Weak.pickS [some 0] (by simp [go_sem, hibl]) (by simp [go_sem, hlts]) (by decide) (by simp [hx]) hw (by simp [go_sem, hil, hbl0] <;> omega)
              · simp only [hpS_new hr] at ih1
                repeat (first | (simp only [go_sem, Int.reduceLT, Int.reduceLE, Int.reduceEq, Int.reduceToNat, hcn, hin, get_app hatG.get, get_app hbsG, get_app hbtG.get, hbtG.get, hatG.get, hbsG, hat.live, hbt.live, hxG, hil3, hij, hij1, hib0, hib1, hbs0, hbs1, hfl, hfl2, hfs, hn1, hnr, hd1, hd2, hmj, hsa, hsg, hsa2, Int.toNat_natCast, Int.add_zero, e0]) | ((with_reducible refine And.intro ?_ ?_); omega) | ((with_reducible refine isSK ?_); first | refine call_ret (slicesHas (l := o) hrdG.app (by omega)) ?_ ?_ | refine call_ret (cloneI hatG.app (by rw [hfl]; exact hfit) (by omega)) ?_ ?_ | refine call_ret (ih1 (by exact At.mk' 1 rfl rfl ) (by omega) hbtG.app (get_app hbsG) (bvS_s hKn _ _ _ _)) ?_ ?_) )
                refine EK_again (c + 1) ?_ (by omega) (by omega)
                rw [hsc, hpS_new (impS_ne himp himp2 hk)]
                simp only [hG, List.set_set, List.length_set]
                exact Weak.pickS [some 3] (by simp [go_sem, hibl]) (by simp [go_sem, hlts]) (by decide) (by simp [hx]) hw (by simp [go_sem, hil, hbl0] <;> omega)
            · have hop1 : o.length = o'.length + 1 := by rw [hoe]; simp
              have e0 : ((0 : Int) < (o.length : Int)) = True := eq_true (by omega)
              have hmj : moreJ l o c = jmp l p.toNat c := by rw [hoe, List.concat_eq_append]; unfold moreJ; rw [List.getLast?_concat]
              rw [hmj] at ih1 hmr
              have hpI := hoI p (by rw [hoe]; simp)
              have hce := hat.i64 (j := o.length - 1) (by omega)
              have hpe : o[o.length - 1]'(by omega) = p := by simp [hoe]
              rw [hpe] at hce
              have tk : ((o.length : Int) - 1).toNat = o.length - 1 := by omega
              have p1 := hbt.elem (rowL .u16 12) 12 hz12 (show p.toNat < l.length by omega)
              have p2 := hbt.elem (rowL .u16 12) 12 hz12 (show c < l.length by omega)
              rw [← pg_at (show p.toNat < l.length by omega)] at p1
              rw [← pg_at (show c < l.length by omega)] at p2
              have hjm : jumpF (pg l p.toNat) (pg l c) = jmp l p.toNat c := rfl
              by_cases hr : S2 = K
              · have hr' := hr.symm
                subst hr'
                simp only [hpS_self] at ih1
                repeat (first | (simp only [go_sem, Int.reduceLT, Int.reduceLE, Int.reduceEq, Int.reduceToNat, hcn, hin, get_app hatG.get, get_app hbsG, get_app hbtG.get, hbtG.get, hatG.get, hbsG, hat.live, hbt.live, hxG, hil3, hij, hij1, hib0, hib1, hbs0, hbs1, hfl, hfl2, hfs, hn1, hnr, hd1, hd2, hmj, hsa, hsg, hsa2, Int.toNat_natCast, Int.add_zero, e0, hce, tk, p1, p2, hjm]) | ((with_reducible refine And.intro ?_ ?_); omega) | ((with_reducible refine isSK ?_); first | refine call_ret (slicesHas (l := o) hrdG.app (by omega)) ?_ ?_ | refine call_ret (cloneI hatG.app (by rw [hfl]; exact hfit) (by omega)) ?_ ?_ | refine call_ret (jump (pg_12 h12 _) (pg_12 h12 _)) ?_ ?_ | refine call_ret (ih1 (by exact At.mk' 1 rfl rfl ) (by omega) hbtG.app (get_app hbsG) (bvS_s hKn _ _ _ _)) ?_ ?_) | ((with_reducible refine isWKr (id := 10) ?_); refine WK_drawUp 10 [[],[0],[0,1],[0,1,2],[],[],[5],[4,5,6],[4,5,6,7],[0,1,2,3,4,5,6,7,8],[0,1,2,3,4,5,6,7,8,9],[],[11],[11,12],[11,12,13],[],[11,12,13,14,15],[11,12,13,14,15,16],[0,1,2,3,4,5,6,7,8,9,10,11,12,13,14,15,16,17],[0,1,2,3,4,5,6,7,8,9,10,11,12,13,14,15,16,17,18]] 18 (by kernel_rfl) ?_; dsimp only [List.take, List.drop]) )
                refine EK_again (c + 1) ?_ (by omega) (by omega)
                rw [hsc, hpS_new hk]
                simp only [hG]
                exact Weak.pickS [some 0] (by simp [go_sem, hibl]) (by simp [go_sem, hlts]) (by decide) (by simp [hx]) hw (by simp [go_sem, hil, hbl0] <;> omega)
              · simp only [hpS_new hr] at ih1
                repeat (first | (simp only [go_sem, Int.reduceLT, Int.reduceLE, Int.reduceEq, Int.reduceToNat, hcn, hin, get_app hatG.get, get_app hbsG, get_app hbtG.get, hbtG.get, hatG.get, hbsG, hat.live, hbt.live, hxG, hil3, hij, hij1, hib0, hib1, hbs0, hbs1, hfl, hfl2, hfs, hn1, hnr, hd1, hd2, hmj, hsa, hsg, hsa2, Int.toNat_natCast, Int.add_zero, e0, hce, tk, p1, p2, hjm]) | ((with_reducible refine And.intro ?_ ?_); omega) | ((with_reducible refine isSK ?_); first | refine call_ret (slicesHas (l := o) hrdG.app (by omega)) ?_ ?_ | refine call_ret (cloneI hatG.app (by rw [hfl]; exact hfit) (by omega)) ?_ ?_ | refine call_ret (jump (pg_12 h12 _) (pg_12 h12 _)) ?_ ?_ | refine call_ret (ih1 (by exact At.mk' 1 rfl rfl ) (by omega) hbtG.app (get_app hbsG) (bvS_s hKn _ _ _ _)) ?_ ?_) | ((with_reducible refine isWKr (id := 10) ?_); refine WK_drawUp 10 [[],[0],[0,1],[0,1,2],[],[],[5],[4,5,6],[4,5,6,7],[0,1,2,3,4,5,6,7,8],[0,1,2,3,4,5,6,7,8,9],[],[11],[11,12],[11,12,13],[],[11,12,13,14,15],[11,12,13,14,15,16],[0,1,2,3,4,5,6,7,8,9,10,11,12,13,14,15,16,17],[0,1,2,3,4,5,6,7,8,9,10,11,12,13,14,15,16,17,18]] 18 (by kernel_rfl) ?_; dsimp only [List.take, List.drop]) )
                refine EK_again (c + 1) ?_ (by omega) (by omega)
                rw [hsc, hpS_new (impS_ne himp himp2 hk)]
                simp only [hG, List.set_set, List.length_set]
                exact Weak.pickS [some 3] (by simp [go_sem, hibl]) (by simp [go_sem, hlts]) (by decide) (by simp [hx]) hw (by simp [go_sem, hil, hbl0] <;> omega)
        · rw [hin, if_pos rfl] at hsc
          repeat (first | (simp only [go_sem, Int.reduceLT, Int.reduceLE, Int.reduceEq, Int.reduceToNat, hcn, hin]) | ((with_reducible refine And.intro ?_ ?_); omega) | ((with_reducible refine isSK ?_); refine call_ret (slicesHas (l := o) hrdL (by omega)) ?_ ?_) )
          refine EK_again (c + 1) ?_ (by omega) (by omega)
          rw [hsc]
          exact Weak.slots (by simp [go_sem])
      · have : c = n := by omega
        subst this
        have hcn : ((c : Int) < (l.length : Int)) = False := eq_false (by omega)
        repeat ((simp only [go_sem, Int.reduceLT, Int.reduceLE, Int.reduceEq, Int.reduceToNat, hcn]) )
        refine ret_at hq _ (.inr rfl) (by unfold hpS; split <;> simp) ?_
        simp [go_sem]
    · obtain ⟨qi, qo, ql, qc, rfl⟩ := bvS_some hbv c1
      refine cal_fn 81 mixed Tryz.func44 Tryz.ntmps44 Tryz.results44 rfl rfl rfl fun hw cx hx hq => ?_
      repeat ((simp only [go_sem, Int.reduceLT, Int.reduceLE, Int.reduceEq, Int.reduceToNat, hbs, hat.get, c2, e3]) )
      refine WK_for (fun c : Nat => ⟨[.p bs 0, .s i0 off o.length cv, .v (.int .i64 s), .any, .any, .any, .any, .any, .any, .any, .any, .any, .any, .any, .any, .any, .any, .any, .any, .any, .any, .any, .any, .any, .any, .any, .any, .any, .any, .any, .any, .any, .any, .any, .any, .any, .any, .any, .any, .any, .any, .any, .any, .v (.int .i64 l.length), .v (.int .i64 c)] ++ junk 39, hpS H bs n (.s ib offb l.length cb) ty 2 st (srK l n f o s st c)⟩) (fun c => c ≤ n) (fun c => n - c) 0 ?_ (Nat.zero_le _) fun c hc => ?_
      · simp only [srK, hpS_self]
        exact Weak.slots (by simp [go_sem])
      have himp := srK_imp (l := l) (st := st) (f := f) h8 (by omega) hs0 hs1 c
      have hokK := impS_ok himp hst
      have hsc : srK l n f o s st (c + 1) = if hasI o c = true then srK l n f o s st c else srch l n f (o ++ [(c : Int)]) (s + moreJ l o c) (srK l n f o s st c) := rfl
      have hrdL : Rd (hpS H bs n (.s ib offb l.length cb) ty 2 st (srK l n f o s st c)) (.s i0 off o.length cv) i64C o := by
        unfold hpS
        split
        · exact hrd
        · exact .inr ⟨i0, off, cv, b, rfl, (at_seto hat hi0).app, by rw [hfl]; exact hfit⟩
      rcases Int.lt_or_le (c : Int) n with hcl | hcl
      · have hcn : ((c : Int) < (l.length : Int)) = True := eq_true (by omega)
        generalize hK : srK l n f o s st c = K at himp hokK hsc hrdL ⊢
        cases hin : hasI o c
        · rw [hin, if_neg (by simp)] at hsc
          have hmr := moreJ_range l o c
          have himp2 := srch_imp (l := l) (st := K) h8 f (o ++ [(c : Int)]) (s + moreJ l o c) (by simp; omega) (by omega) (by simp; omega)
          have ih1 : ∀ {H : List Blk} {i0 : Nat} {cv : Cap} {b : Blk} {bv : V} (_ : At H i0 0 ((o ++ [(c : Int)]).flatMap i64C) b) (_ : i0 ≠ bs) (_ : At H ib offb (l.flatMap (rowL .u16 12)) bb) (_ : H[bs]? = some ⟨[.s ib offb l.length cb, bv, .v (.int .i64 (leX K))], ty, .fix⟩) (_ : bvS K bv), Cal Tryz.prog 44 [.p bs 0, .s i0 0 (o.length + 1) cv, .v (.int .i64 (s + moreJ l o c))] H fun u H' => u = .t [] ∧ H' = hpS H bs n (.s ib offb l.length cb) ty 2 K (srch l n f (o ++ [(c : Int)]) (s + moreJ l o c) K) := fun a1 a2 a3 a4 a5 => by
            have := ih (s := s + moreJ l o c) (cv := ‹Cap›) a1 (by have := a1.len0; rw [flat_i64.flen] at this; omega) a2 (okI_snoc hoI (by omega)) (by simp; omega) (by omega) (by simp; omega) hokK a3 hbf hib a4 a5
            rwa [show (o ++ [(c : Int)]).length = o.length + 1 by simp] at this
          generalize srch l n f (o ++ [(c : Int)]) (s + moreJ l o c) K = S2 at ih1 hsc himp2
          have hfl2 : (o ++ [(c : Int)]).length = o.length + 1 := by simp
          have hfs : o.flatMap i64C ++ [V.v (.int .i64 (c : Int))] = (o ++ [(c : Int)]).flatMap i64C := by simp [i64C]
          have hnr := fun (m : Nat) (L : List Int) => flat_i64.norefs m L
          have hlts := fun (m : Nat) (L : List Int) => flat_i64.lts m L
          have hbl0 := hbl
          by_cases hk : K = st
          · rw [hpS_same hk]
            have hbsK := hbs
            have hbvK := hbv
            rw [← hk] at hbsK hbvK
            have hij : (i0 = H.length) = False := eq_false (by omega)
            have hij1 : (i0 = H.length + 1) = False := eq_false (by omega)
            have hib0 : (ib = H.length) = False := eq_false (by omega)
            have hib1 : (ib = H.length + 1) = False := eq_false (by omega)
            have hbs0 : (bs = H.length) = False := eq_false (by omega)
            have hbs1 : (bs = H.length + 1) = False := eq_false (by omega)
            have hil3 : (i0 < H.length) = True := eq_true (by omega)
            have hd1 : (H.length + 1 = H.length) = False := eq_false (by omega)
            have hd2 : (H.length = H.length + 1) = False := eq_false (by omega)
            have hn1 : norefH H.length H := norefH_wf hw (Nat.le_refl _)
            rcases List.eq_nil_or_concat o with hoe | ⟨o', p, hoe⟩
            · have e0 : ((0 : Int) < (o.length : Int)) = False := eq_false (by rw [hoe]; simp)
              have hmj : moreJ l o c = 0 := by rw [hoe]; rfl
              rw [hmj, Int.add_zero] at ih1
              by_cases hr : S2 = K
              · have hr' := hr.symm
                subst hr'
                simp only [hpS_self] at ih1
                repeat (first | (simp only [go_sem, Int.reduceLT, Int.reduceLE, Int.reduceEq, Int.reduceToNat, hcn, hin, get_app hat.get, get_app hbsK, get_app hbt.get, hbt.get, hat.get, hbsK, hat.live, hbt.live, hx, hil3, hij, hij1, hib0, hib1, hbs0, hbs1, hfl, hfl2, hfs, hn1, hnr, hd1, hd2, hmj, hsa, hsg, hsa2, Int.toNat_natCast, Int.add_zero, e0]) | ((with_reducible refine And.intro ?_ ?_); omega) | ((with_reducible refine isSK ?_); first | refine call_ret (slicesHas (l := o) hrd (by omega)) ?_ ?_ | refine call_ret (cloneI hat (by rw [hfl]; exact hfit) (by omega)) ?_ ?_ | refine call_ret (ih1 (by exact At.mk0 rfl ) (by omega) hbt.app (get_app hbsK) hbvK) ?_ ?_) )
                refine EK_again (c + 1) ?_ (by omega) (by omega)
                rw [hsc, hpS_same hk]
                exact Weak.both rfl (by simp [go_sem]) (by simp [hx]) (by simp [go_sem, hil, hbl0] <;> omega) hw 
              · simp only [hpS_new hr] at ih1
                repeat (first | (simp only [go_sem, Int.reduceLT, Int.reduceLE, Int.reduceEq, Int.reduceToNat, hcn, hin, get_app hat.get, get_app hbsK, get_app hbt.get, hbt.get, hat.get, hbsK, hat.live, hbt.live, hx, hil3, hij, hij1, hib0, hib1, hbs0, hbs1, hfl, hfl2, hfs, hn1, hnr, hd1, hd2, hmj, hsa, hsg, hsa2, Int.toNat_natCast, Int.add_zero, e0]) | ((with_reducible refine And.intro ?_ ?_); omega) | ((with_reducible refine isSK ?_); first | refine call_ret (slicesHas (l := o) hrd (by omega)) ?_ ?_ | refine call_ret (cloneI hat (by rw [hfl]; exact hfit) (by omega)) ?_ ?_ | refine call_ret (ih1 (by exact At.mk0 rfl ) (by omega) hbt.app (get_app hbsK) hbvK) ?_ ?_) )
                refine EK_again (c + 1) ?_ (by omega) (by omega)
                rw [hsc, hpS_new (hk ▸ hr)]
                exact Weak.pickS [some 2] (by simp [go_sem, hibl]) (by simp [go_sem, hlts]) (by decide) (by simp [hx]) hw (by simp [go_sem, hil, hbl0] <;> omega)
            · have hop1 : o.length = o'.length + 1 := by rw [hoe]; simp
              have e0 : ((0 : Int) < (o.length : Int)) = True := eq_true (by omega)
              have hmj : moreJ l o c = jmp l p.toNat c := by rw [hoe, List.concat_eq_append]; unfold moreJ; rw [List.getLast?_concat]
              rw [hmj] at ih1 hmr
              have hpI := hoI p (by rw [hoe]; simp)
              have hce := hat.i64 (j := o.length - 1) (by omega)
              have hpe : o[o.length - 1]'(by omega) = p := by simp [hoe]
              rw [hpe] at hce
              have tk : ((o.length : Int) - 1).toNat = o.length - 1 := by omega
              have p1 := hbt.elem (rowL .u16 12) 12 hz12 (show p.toNat < l.length by omega)
              have p2 := hbt.elem (rowL .u16 12) 12 hz12 (show c < l.length by omega)
              rw [← pg_at (show p.toNat < l.length by omega)] at p1
              rw [← pg_at (show c < l.length by omega)] at p2
              have hjm : jumpF (pg l p.toNat) (pg l c) = jmp l p.toNat c := rfl
              by_cases hr : S2 = K
              · have hr' := hr.symm
                subst hr'
                simp only [hpS_self] at ih1
                repeat (first | (simp only [go_sem, Int.reduceLT, Int.reduceLE, Int.reduceEq, Int.reduceToNat, hcn, hin, get_app hat.get, get_app hbsK, get_app hbt.get, hbt.get, hat.get, hbsK, hat.live, hbt.live, hx, hil3, hij, hij1, hib0, hib1, hbs0, hbs1, hfl, hfl2, hfs, hn1, hnr, hd1, hd2, hmj, hsa, hsg, hsa2, Int.toNat_natCast, Int.add_zero, e0, hce, tk, p1, p2, hjm]) | ((with_reducible refine And.intro ?_ ?_); omega) | ((with_reducible refine isSK ?_); first | refine call_ret (slicesHas (l := o) hrd (by omega)) ?_ ?_ | refine call_ret (cloneI hat (by rw [hfl]; exact hfit) (by omega)) ?_ ?_ | refine call_ret (jump (pg_12 h12 _) (pg_12 h12 _)) ?_ ?_ | refine call_ret (ih1 (by exact At.mk0 rfl ) (by omega) hbt.app (get_app hbsK) hbvK) ?_ ?_) | ((with_reducible refine isWKr (id := 10) ?_); refine WK_drawUp 10 [[],[0],[0,1],[0,1,2],[],[],[5],[4,5,6],[4,5,6,7],[0,1,2,3,4,5,6,7,8],[0,1,2,3,4,5,6,7,8,9],[],[11],[11,12],[11,12,13],[],[11,12,13,14,15],[11,12,13,14,15,16],[0,1,2,3,4,5,6,7,8,9,10,11,12,13,14,15,16,17],[0,1,2,3,4,5,6,7,8,9,10,11,12,13,14,15,16,17,18]] 18 (by kernel_rfl) ?_; dsimp only [List.take, List.drop]) )
                refine EK_again (c + 1) ?_ (by omega) (by omega)
                rw [hsc, hpS_same hk]
                exact Weak.both rfl (by simp [go_sem]) (by simp [hx]) (by simp [go_sem, hil, hbl0] <;> omega) hw 
              · simp only [hpS_new hr] at ih1
                repeat (first | (simp only [go_sem, Int.reduceLT, Int.reduceLE, Int.reduceEq, Int.reduceToNat, hcn, hin, get_app hat.get, get_app hbsK, get_app hbt.get, hbt.get, hat.get, hbsK, hat.live, hbt.live, hx, hil3, hij, hij1, hib0, hib1, hbs0, hbs1, hfl, hfl2, hfs, hn1, hnr, hd1, hd2, hmj, hsa, hsg, hsa2, Int.toNat_natCast, Int.add_zero, e0, hce, tk, p1, p2, hjm]) | ((with_reducible refine And.intro ?_ ?_); omega) | ((with_reducible refine isSK ?_); first | refine call_ret (slicesHas (l := o) hrd (by omega)) ?_ ?_ | refine call_ret (cloneI hat (by rw [hfl]; exact hfit) (by omega)) ?_ ?_ | refine call_ret (jump (pg_12 h12 _) (pg_12 h12 _)) ?_ ?_ | refine call_ret (ih1 (by exact At.mk0 rfl ) (by omega) hbt.app (get_app hbsK) hbvK) ?_ ?_) | ((with_reducible refine isWKr (id := 10) ?_); refine WK_drawUp 10 [[],[0],[0,1],[0,1,2],[],[],[5],[4,5,6],[4,5,6,7],[0,1,2,3,4,5,6,7,8],[0,1,2,3,4,5,6,7,8,9],[],[11],[11,12],[11,12,13],[],[11,12,13,14,15],[11,12,13,14,15,16],[0,1,2,3,4,5,6,7,8,9,10,11,12,13,14,15,16,17],[0,1,2,3,4,5,6,7,8,9,10,11,12,13,14,15,16,17,18]] 18 (by kernel_rfl) ?_; dsimp only [List.take, List.drop]) )
                refine EK_again (c + 1) ?_ (by omega) (by omega)
                rw [hsc, hpS_new (hk ▸ hr)]
                exact Weak.pickS [some 2] (by simp [go_sem, hibl]) (by simp [go_sem, hlts]) (by decide) (by simp [hx]) hw (by simp [go_sem, hil, hbl0] <;> omega)
          · rw [hpS_new hk]
            have hKl : (beL K).length = n := beL_len hokK (fun e => by subst e; exact hk (impS_none himp))
            have hKn : K ≠ none := fun e => by subst e; exact hk (impS_none himp)
            obtain ⟨G, hG⟩ : ∃ G, G = H.set bs ⟨[.s ib offb l.length cb, .s H.length 0 n (.u 0), .v (.int .i64 (leX K))], ty, .fix⟩ := ⟨_, rfl⟩
            rw [← hG]
            have hGl : G.length = H.length := by rw [hG, List.length_set]
            have hxG : cx.n0 = G.length := by rw [hGl]; exact hx
            have hatG : At G i0 off (o.flatMap i64C) b := by rw [hG]; exact at_seto hat hi0
            have hbtG : At G ib offb (l.flatMap (rowL .u16 12)) bb := by rw [hG]; exact at_seto hbt hib
            have hrdG : Rd G (.s i0 off o.length cv) i64C o := .inr ⟨i0, off, cv, b, rfl, hatG, by rw [hfl]; exact hfit⟩
            have hbsG : G[bs]? = some ⟨[.s ib offb l.length cb, .s G.length 0 n (.u 0), .v (.int .i64 (leX K))], ty, .fix⟩ := by rw [hGl, hG, List.getElem?_set_self hbl]
            have hbl : bs < G.length := by omega
            have hsa : ∀ (L : List Blk) (B : Blk), (G ++ L).set bs B = G.set bs B ++ L := fun L B => List.set_append_left bs B hbl
            have hsg : ∀ (L : List Blk) (B : Blk), (G.set bs B ++ L)[bs]? = some B := fun L B => by rw [List.getElem?_append_left (by simpa using hbl), List.getElem?_set_self hbl]
            have hsa2 : ∀ (L : List Blk) (B B' : Blk), (G.set bs B ++ L).set bs B' = G.set bs B' ++ L := fun L B B' => by rw [List.set_append_left bs B' (by simpa using hbl), List.set_set]
            have hij : (i0 = G.length) = False := eq_false (by omega)
            have hij1 : (i0 = G.length + 1) = False := eq_false (by omega)
            have hib0 : (ib = G.length) = False := eq_false (by omega)
            have hib1 : (ib = G.length + 1) = False := eq_false (by omega)
            have hbs0 : (bs = G.length) = False := eq_false (by omega)
            have hbs1 : (bs = G.length + 1) = False := eq_false (by omega)
            have hil3 : (i0 < G.length) = True := eq_true (by omega)
            have hd1 : (G.length + 1 = G.length) = False := eq_false (by omega)
            have hd2 : (G.length = G.length + 1) = False := eq_false (by omega)
            have hn1 : norefH (G.length + 1) G := by rw [hGl, hG]; exact norefH_set hw hbl0 (by simp [go_sem, norefs, V.noref] <;> omega)
            rcases List.eq_nil_or_concat o with hoe | ⟨o', p, hoe⟩
            · have e0 : ((0 : Int) < (o.length : Int)) = False := eq_false (by rw [hoe]; simp)
              have hmj : moreJ l o c = 0 := by rw [hoe]; rfl
              rw [hmj, Int.add_zero] at ih1
              by_cases hr : S2 = K
              · have hr' := hr.symm
                subst hr'
                simp only [hpS_self] at ih1
                repeat (first | (simp only [go_sem, Int.reduceLT, Int.reduceLE, Int.reduceEq, Int.reduceToNat, hcn, hin, get_app hatG.get, get_app hbsG, get_app hbtG.get, hbtG.get, hatG.get, hbsG, hat.live, hbt.live, hxG, hil3, hij, hij1, hib0, hib1, hbs0, hbs1, hfl, hfl2, hfs, hn1, hnr, hd1, hd2, hmj, hsa, hsg, hsa2, Int.toNat_natCast, Int.add_zero, e0]) | ((with_reducible refine And.intro ?_ ?_); omega) | ((with_reducible refine isSK ?_); first | refine call_ret (slicesHas (l := o) hrdG.app (by omega)) ?_ ?_ | refine call_ret (cloneI hatG.app (by rw [hfl]; exact hfit) (by omega)) ?_ ?_ | refine call_ret (ih1 (by exact At.mk' 1 rfl rfl ) (by omega) hbtG.app (get_app hbsG) (bvS_s hKn _ _ _ _)) ?_ ?_) )
                refine EK_again (c + 1) ?_ (by omega) (by omega)
                rw [hsc, hpS_new hk]
                simp only [hG]
                exact Weak.pickS [some 0] (by simp [go_sem, hibl]) (by simp [go_sem, hlts]) (by decide) (by simp [hx]) hw (by simp [go_sem, hil, hbl0] <;> omega)
              · simp only [hpS_new hr] at ih1
                repeat (first | (simp only [go_sem, Int.reduceLT, Int.reduceLE, Int.reduceEq, Int.reduceToNat, hcn, hin, get_app hatG.get, get_app hbsG, get_app hbtG.get, hbtG.get, hatG.get, hbsG, hat.live, hbt.live, hxG, hil3, hij, hij1, hib0, hib1, hbs0, hbs1, hfl, hfl2, hfs, hn1, hnr, hd1, hd2, hmj, hsa, hsg, hsa2, Int.toNat_natCast, Int.add_zero, e0]) | ((with_reducible refine And.intro ?_ ?_); omega) | ((with_reducible refine isSK ?_); first | refine call_ret (slicesHas (l := o) hrdG.app (by omega)) ?_ ?_ | refine call_ret (cloneI hatG.app (by rw [hfl]; exact hfit) (by omega)) ?_ ?_ | refine call_ret (ih1 (by exact At.mk' 1 rfl rfl ) (by omega) hbtG.app (get_app hbsG) (bvS_s hKn _ _ _ _)) ?_ ?_) )
                refine EK_again (c + 1) ?_ (by omega) (by omega)
                rw [hsc, hpS_new (impS_ne himp himp2 hk)]
                simp only [hG, List.set_set, List.length_set]
                exact Weak.pickS [some 3] (by simp [go_sem, hibl]) (by simp [go_sem, hlts]) (by decide) (by simp [hx]) hw (by simp [go_sem, hil, hbl0] <;> omega)
            · have hop1 : o.length = o'.length + 1 := by rw [hoe]; simp
              have e0 : ((0 : Int) < (o.length : Int)) = True := eq_true (by omega)
              have hmj : moreJ l o c = jmp l p.toNat c := by rw [hoe, List.concat_eq_append]; unfold moreJ; rw [List.getLast?_concat]
              rw [hmj] at ih1 hmr
              have hpI := hoI p (by rw [hoe]; simp)
              have hce := hat.i64 (j := o.length - 1) (by omega)
              have hpe : o[o.length - 1]'(by omega) = p := by simp [hoe]
              rw [hpe] at hce
              have tk : ((o.length : Int) - 1).toNat = o.length - 1 := by omega
              have p1 := hbt.elem (rowL .u16 12) 12 hz12 (show p.toNat < l.length by omega)
              have p2 := hbt.elem (rowL .u16 12) 12 hz12 (show c < l.length by omega)
              rw [← pg_at (show p.toNat < l.length by omega)] at p1
              rw [← pg_at (show c < l.length by omega)] at p2
              have hjm : jumpF (pg l p.toNat) (pg l c) = jmp l p.toNat c := rfl
              by_cases hr : S2 = K
              · have hr' := hr.symm
                subst hr'
                simp only [hpS_self] at ih1
                repeat (first | (simp only [go_sem, Int.reduceLT, Int.reduceLE, Int.reduceEq, Int.reduceToNat, hcn, hin, get_app hatG.get, get_app hbsG, get_app hbtG.get, hbtG.get, hatG.get, hbsG, hat.live, hbt.live, hxG, hil3, hij, hij1, hib0, hib1, hbs0, hbs1, hfl, hfl2, hfs, hn1, hnr, hd1, hd2, hmj, hsa, hsg, hsa2, Int.toNat_natCast, Int.add_zero, e0, hce, tk, p1, p2, hjm]) | ((with_reducible refine And.intro ?_ ?_); omega) | ((with_reducible refine isSK ?_); first | refine call_ret (slicesHas (l := o) hrdG.app (by omega)) ?_ ?_ | refine call_ret (cloneI hatG.app (by rw [hfl]; exact hfit) (by omega)) ?_ ?_ | refine call_ret (jump (pg_12 h12 _) (pg_12 h12 _)) ?_ ?_ | refine call_ret (ih1 (by exact At.mk' 1 rfl rfl ) (by omega) hbtG.app (get_app hbsG) (bvS_s hKn _ _ _ _)) ?_ ?_) | ((with_reducible refine isWKr (id := 10) ?_); refine WK_drawUp 10 [[],[0],[0,1],[0,1,2],[],[],[5],[4,5,6],[4,5,6,7],[0,1,2,3,4,5,6,7,8],[0,1,2,3,4,5,6,7,8,9],[],[11],[11,12],[11,12,13],[],[11,12,13,14,15],[11,12,13,14,15,16],[0,1,2,3,4,5,6,7,8,9,10,11,12,13,14,15,16,17],[0,1,2,3,4,5,6,7,8,9,10,11,12,13,14,15,16,17,18]] 18 (by kernel_rfl) ?_; dsimp only [List.take, List.drop]) )
                refine EK_again (c + 1) ?_ (by omega) (by omega)
                rw [hsc, hpS_new hk]
                simp only [hG]
                exact Weak.pickS [some 0] (by simp [go_sem, hibl]) (by simp [go_sem, hlts]) (by decide) (by simp [hx]) hw (by simp [go_sem, hil, hbl0] <;> omega)
              · simp only [hpS_new hr] at ih1
                repeat (first | (simp only [go_sem, Int.reduceLT, Int.reduceLE, Int.reduceEq, Int.reduceToNat, hcn, hin, get_app hatG.get, get_app hbsG, get_app hbtG.get, hbtG.get, hatG.get, hbsG, hat.live, hbt.live, hxG, hil3, hij, hij1, hib0, hib1, hbs0, hbs1, hfl, hfl2, hfs, hn1, hnr, hd1, hd2, hmj, hsa, hsg, hsa2, Int.toNat_natCast, Int.add_zero, e0, hce, tk, p1, p2, hjm]) | ((with_reducible refine And.intro ?_ ?_); omega) | ((with_reducible refine isSK ?_); first | refine call_ret (slicesHas (l := o) hrdG.app (by omega)) ?_ ?_ | refine call_ret (cloneI hatG.app (by rw [hfl]; exact hfit) (by omega)) ?_ ?_ | refine call_ret (jump (pg_12 h12 _) (pg_12 h12 _)) ?_ ?_ | refine call_ret (ih1 (by exact At.mk' 1 rfl rfl ) (by omega) hbtG.app (get_app hbsG) (bvS_s hKn _ _ _ _)) ?_ ?_) | ((with_reducible refine isWKr (id := 10) ?_); refine WK_drawUp 10 [[],[0],[0,1],[0,1,2],[],[],[5],[4,5,6],[4,5,6,7],[0,1,2,3,4,5,6,7,8],[0,1,2,3,4,5,6,7,8,9],[],[11],[11,12],[11,12,13],[],[11,12,13,14,15],[11,12,13,14,15,16],[0,1,2,3,4,5,6,7,8,9,10,11,12,13,14,15,16,17],[0,1,2,3,4,5,6,7,8,9,10,11,12,13,14,15,16,17,18]] 18 (by kernel_rfl) ?_; dsimp only [List.take, List.drop]) )
                refine EK_again (c + 1) ?_ (by omega) (by omega)
                rw [hsc, hpS_new (impS_ne himp himp2 hk)]
                simp only [hG, List.set_set, List.length_set]
                exact Weak.pickS [some 3] (by simp [go_sem, hibl]) (by simp [go_sem, hlts]) (by decide) (by simp [hx]) hw (by simp [go_sem, hil, hbl0] <;> omega)
        · rw [hin, if_pos rfl] at hsc
          repeat (first | (simp only [go_sem, Int.reduceLT, Int.reduceLE, Int.reduceEq, Int.reduceToNat, hcn, hin]) | ((with_reducible refine And.intro ?_ ?_); omega) | ((with_reducible refine isSK ?_); refine call_ret (slicesHas (l := o) hrdL (by omega)) ?_ ?_) )
          refine EK_again (c + 1) ?_ (by omega) (by omega)
          rw [hsc]
          exact Weak.slots (by simp [go_sem])
      · have : c = n := by omega
        subst this
        have hcn : ((c : Int) < (l.length : Int)) = False := eq_false (by omega)
        repeat ((simp only [go_sem, Int.reduceLT, Int.reduceLE, Int.reduceEq, Int.reduceToNat, hcn]) )
        refine ret_at hq _ (.inr rfl) (by unfold hpS; split <;> simp) ?_
        simp [go_sem]
end Go.Proofs.YtaekjojblkhfdaaGreatDoor
