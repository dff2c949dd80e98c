/- Contracts of functions of the translated program, by the walk. -/
import Derived.Test.YtaekjojblkhfdaaGreatDoorBo2
set_option linter.unusedVariables false
set_option linter.unusedSimpArgs false
set_option maxRecDepth 8000
set_option maxHeartbeats 16000000
namespace Go.Proofs.YtaekjojblkhfdaaGreatDoor
open Go Go.Sx
def wV (st st' : SS) (w : V) (h n : Nat) : V := if st' = st then w else .s h 0 n (.u 0)
def wB (st st' : SS) (t : TypeId) : List Blk := if st' = st then [] else [⟨(beL st').flatMap i64C, t, .own 1⟩]
theorem wV_same {st st' : SS} (h : st' = st) (w : V) (a n : Nat) : wV st st' w a n = w := if_pos h
theorem wV_new {st st' : SS} (h : st' ≠ st) (w : V) (a n : Nat) : wV st st' w a n = .s a 0 n (.u 0) := if_neg h
theorem wB_same {st st' : SS} (h : st' = st) (t : TypeId) : wB st st' t = [] := if_pos h
theorem wV_self (st : SS) (w : V) (a n : Nat) : wV st st w a n = w := if_pos rfl
theorem wB_self (st : SS) (t : TypeId) : wB st st t = [] := if_pos rfl
theorem wB_new {st st' : SS} (h : st' ≠ st) (t : TypeId) : wB st st' t = [⟨(beL st').flatMap i64C, t, .own 1⟩] := if_neg h
theorem cut_facts {n : Nat} {s : Int} {st : SS} (hst : okS n st) : (cutS s st = true → (0 ≤ leI st) = True ∧ (leI st ≤ s) = True) ∧ (cutS s st = false → (0 ≤ leI st) = False ∨ ((0 ≤ leI st) = True ∧ (leI st ≤ s) = False)) := by
  cases st with
  | none => exact ⟨fun h => (by cases h), fun _ => .inl (eq_false (by decide))⟩
  | some q =>
    obtain ⟨b, x⟩ := q
    have := hst b x rfl
    exact ⟨fun h => ⟨eq_true this.2.1, eq_true (by simpa [cutS, leI] using h)⟩, fun h => .inr ⟨eq_true this.2.1, eq_false (by simpa [cutS, leI] using h)⟩⟩
theorem srch_new {s : Int} {o : List Int} {st : SS} (h : cutS s st = false) : (some (o, s) : SS) ≠ st := by
  rintro rfl
  simp [cutS] at h
theorem leI_range {n : Nat} {st : SS} (h : okS n st) : -1 ≤ leI st ∧ leI st ≤ 1152 := by
  cases st with
  | none => simp [leI]
  | some q => have := h q.1 q.2 rfl; simp only [leI]; omega
theorem wV_solid {w : V} (h : w.solid = true) (st st' : SS) (a n : Nat) : (wV st st' w a n).solid = true := by
  unfold wV; split
  · exact h
  · rfl
theorem impS_none {n : Nat} {st : SS} (h : impS n st none) : none = st := by
  rcases h with h | ⟨b, x, h, _⟩
  · exact h
  · cases h
theorem beL_len {n : Nat} {K : SS} (h : okS n K) (hn : K ≠ none) : (beL K).length = n := by
  cases K with
  | none => exact absurd rfl hn
  | some q => exact (h q.1 q.2 rfl).1
theorem okI_snoc {l : List (Nat → Int)} {o : List Int} {c : Nat} (h : okI l o) (hc : c < l.length) : okI l (o ++ [(c : Int)]) := fun k hk => by
  rcases List.mem_append.1 hk with hk | hk
  · exact h k hk
  · simp only [List.mem_singleton] at hk; omega
theorem l04Search_ok {l : List (Nat → Int)} {n : Nat} (hn : n = l.length) (h8 : n ≤ 8) : ∀ (f : Nat) {H : List Blk} {v w : V} {bt : Nat} {ty : TypeId} {kk : BK} {o wl : List Int} {s : Int} {st : SS} (h : Rd H v i64C o) (hv : ∀ a b, v ≠ .v (.slice none a b)) (hoI : okI l o) (hof : o.length + f = n) (hs0 : 0 ≤ s) (hs1 : s ≤ 144 * o.length) (hst : okS n st) (h2 : Rd H w i64C wl) (ht : H[bt]? = some ⟨rowL .i64 64 (tabL l), ty, kk⟩) (hlive : kk.live = true),
    Cal Tryz.prog 48 [.p bt 0, .v (.int .i64 n), v, .v (.int .i64 s), w, .v (.int .i64 (leI st))] H fun u H' => u = .t [wV st (srch l n f o s st) w H.length n, .v (.int .i64 (leI (srch l n f o s st)))] ∧ H' = H ++ wB st (srch l n f o s st) 2 := by
  intro f
  induction f with
  | zero =>
    intro H v w bt ty kk o wl s st h hv hoI hof hs0 hs1 hst h2 ht hlive
    have hsol := h.solid
    have hsol2 := h2.solid
    have hL := h.lenV (P := Tryz.prog) slTy27
    have hlr := leI_range hst
    have hcf := cut_facts (s := s) hst
    have hfl : (o.flatMap i64C).length = o.length := by rw [flat_i64.flen, Nat.mul_one]
    obtain ⟨i0, off, cv, b, rfl, hat, hfit⟩ := h.resolve_left (fun e => hv _ _ e.1)
    have hil := hat.lt
    have ha := hat.all hz1
    rw [Nat.mul_one] at ha
    rw [hfl] at hfit
    cases hcut : cutS s st
    case true =>
      rw [srch_zero, if_pos hcut, wV_same rfl, wB_same rfl, List.append_nil]
      obtain ⟨c1, c2⟩ := hcf.1 hcut
      refine cal_fn 69 mixed Tryz.func48 Tryz.ntmps48 Tryz.results48 rfl rfl rfl fun hw cx hx hq => ?_
      repeat ((simp only [go_sem, Int.reduceLT, Int.reduceLE, Int.reduceEq, Int.reduceToNat, hsol, hsol2, c1, c2]) )
      refine ret_same hq _ (.inl rfl) ?_
      simp [go_sem, hsol2]
    have e3 : ((o.length : Int) = (n : Int)) = True := eq_true (by omega)
    have hne := srch_new (o := o) hcut
    rw [srch_zero, if_neg (by rw [hcut]; simp), wV_new hne, wB_new hne]
    rcases hcf.2 hcut with c1 | ⟨c1, c2⟩
    · refine cal_fn 69 mixed Tryz.func48 Tryz.ntmps48 Tryz.results48 rfl rfl rfl fun hw cx hx hq => ?_
      have hn1 : norefH H.length H := norefH_wf hw (Nat.le_refl _)
      have hij : (i0 = H.length) = False := eq_false (by omega)
      have hfg2 := h2.forget (n := H.length) (Nat.le_refl _)
      repeat (first | (simp only [go_sem, Int.reduceLT, Int.reduceLE, Int.reduceEq, Int.reduceToNat, hsol, hsol2, hL, c1, e3, hn1, hx, (get_app hat.get), hat.live, hij, ha, hfg2]) | ((with_reducible refine And.intro ?_ ?_); omega) )
      refine ret_at hq _ (.inl rfl) (by simp) ?_
      simp [go_sem, leI, beL]
      omega
    · refine cal_fn 69 mixed Tryz.func48 Tryz.ntmps48 Tryz.results48 rfl rfl rfl fun hw cx hx hq => ?_
      have hn1 : norefH H.length H := norefH_wf hw (Nat.le_refl _)
      have hij : (i0 = H.length) = False := eq_false (by omega)
      have hfg2 := h2.forget (n := H.length) (Nat.le_refl _)
      repeat (first | (simp only [go_sem, Int.reduceLT, Int.reduceLE, Int.reduceEq, Int.reduceToNat, hsol, hsol2, hL, c1, c2, e3, hn1, hx, (get_app hat.get), hat.live, hij, ha, hfg2]) | ((with_reducible refine And.intro ?_ ?_); omega) )
      refine ret_at hq _ (.inl rfl) (by simp) ?_
      simp [go_sem, leI, beL]
      omega
  | succ f ih =>
    intro H v w bt ty kk o wl s st h hv hoI hof hs0 hs1 hst h2 ht hlive
    have hsol := h.solid
    have hsol2 := h2.solid
    have hL := h.lenV (P := Tryz.prog) slTy27
    have hlr := leI_range hst
    have hcf := cut_facts (s := s) hst
    have hfl : (o.flatMap i64C).length = o.length := by rw [flat_i64.flen, Nat.mul_one]
    obtain ⟨i0, off, cv, b, rfl, hat, hfit⟩ := h.resolve_left (fun e => hv _ _ e.1)
    have hil := hat.lt
    have ha := hat.all hz1
    rw [Nat.mul_one] at ha
    rw [hfl] at hfit
    cases hcut : cutS s st
    case true =>
      rw [srch_succ, if_pos hcut, wV_same rfl, wB_same rfl, List.append_nil]
      obtain ⟨c1, c2⟩ := hcf.1 hcut
      refine cal_fn 69 mixed Tryz.func48 Tryz.ntmps48 Tryz.results48 rfl rfl rfl fun hw cx hx hq => ?_
      repeat ((simp only [go_sem, Int.reduceLT, Int.reduceLE, Int.reduceEq, Int.reduceToNat, hsol, hsol2, c1, c2]) )
      refine ret_same hq _ (.inl rfl) ?_
      simp [go_sem, hsol2]
    have e3 : ((o.length : Int) = (n : Int)) = False := eq_false (by omega)
    rw [srch_succ, if_neg (by rw [hcut]; simp)]
    rcases hcf.2 hcut with c1 | ⟨c1, c2⟩
    · refine cal_fn 69 mixed Tryz.func48 Tryz.ntmps48 Tryz.results48 rfl rfl rfl fun hw cx hx hq => ?_
      repeat ((simp only [go_sem, Int.reduceLT, Int.reduceLE, Int.reduceEq, Int.reduceToNat, hsol, hsol2, hL, c1, e3]) )
      refine WK_for (fun c : Nat => ⟨[.p bt 0, .v (.int .i64 n), .s i0 off o.length cv, .v (.int .i64 s), wV st (srK l n f o s st c) w H.length n, .v (.int .i64 (leI (srK l n f o s st c))), .any, .any, .any, .any, .any, .any, .any, .any, .v (.int .i64 c)] ++ junk 60, H ++ wB st (srK l n f o s st c) 2⟩) (fun c => c ≤ n) (fun c => n - c) 0 ?_ (Nat.zero_le _) fun c hc => ?_
      · simp only [srK, wV_same, wB_same, List.append_nil]
        exact Weak.slots (by simp [go_sem, hsol2])
      have himp := srK_imp (l := l) (st := st) (f := f) h8 (by omega) hs0 hs1 c
      have hokK := impS_ok himp hst
      have hsw := wV_solid hsol2
      have hsc : srK l n f o s st (c + 1) = if hasI o c = true then srK l n f o s st c else srch l n f (o ++ [(c : Int)]) (s + moreJ l o c) (srK l n f o s st c) := rfl
      rcases Int.lt_or_le (c : Int) n with hcl | hcl
      · have hcn : ((c : Int) < (n : Int)) = True := eq_true hcl
        generalize hK : srK l n f o s st c = K at himp hokK hsc ⊢
        cases hin : hasI o c
        · rw [hin, if_neg (by simp)] at hsc
          have hmr := moreJ_range l o c
          have himp2 := srch_imp (l := l) (st := K) h8 f (o ++ [(c : Int)]) (s + moreJ l o c) (by simp; omega) (by omega) (by simp; omega)
          have ih1 : ∀ {H : List Blk} {v w : V} {wl : List Int} (_ : Rd H v i64C (o ++ [(c : Int)])) (_ : ∀ a b, v ≠ .v (.slice none a b)) (_ : Rd H w i64C wl) (_ : H[bt]? = some ⟨rowL .i64 64 (tabL l), ty, kk⟩), Cal Tryz.prog 48 [.p bt 0, .v (.int .i64 n), v, .v (.int .i64 (s + moreJ l o c)), w, .v (.int .i64 (leI K))] H fun u H' => u = .t [wV K (srch l n f (o ++ [(c : Int)]) (s + moreJ l o c) K) w H.length n, .v (.int .i64 (leI (srch l n f (o ++ [(c : Int)]) (s + moreJ l o c) K)))] ∧ H' = H ++ wB K (srch l n f (o ++ [(c : Int)]) (s + moreJ l o c) K) 2 := fun a1 a2 a3 a4 => ih a1 a2 (okI_snoc hoI (by omega)) (by simp; omega) (by omega) (by simp; omega) hokK a3 a4 hlive
          generalize srch l n f (o ++ [(c : Int)]) (s + moreJ l o c) K = S2 at ih1 hsc himp2
          have hfl2 : (o ++ [(c : Int)]).length = o.length + 1 := by simp
          have hfs : o.flatMap i64C ++ [V.v (.int .i64 (c : Int))] = (o ++ [(c : Int)]).flatMap i64C := by simp [i64C]
          have hn1 : norefH H.length H := norefH_wf hw (Nat.le_refl _)
          have hn2 : norefH (H.length + 1) H := norefH_wf hw (by omega)
          have hij : (i0 = H.length) = False := eq_false (by omega)
          have hij1 : (i0 = H.length + 1) = False := eq_false (by omega)
          have hil2 : (i0 < H.length) = True := eq_true hil
          have hbl := (List.getElem?_eq_some_iff.1 ht).1
          have hbl2 : (bt < H.length) = True := eq_true hbl
          have hfg := h2.forget (n := H.length) (by omega)
          have hfg1 := h2.forget (n := H.length + 1) (by omega)
          have hb0 : (bt = H.length) = False := eq_false (by omega)
          have hb1 : (bt = H.length + 1) = False := eq_false (by omega)
          have hd1 : (H.length + 1 = H.length) = False := eq_false (by omega)
          have hd2 : (H.length = H.length + 1) = False := eq_false (by omega)
          have hnr := fun (m : Nat) (L : List Int) => flat_i64.norefs m L
          have hlts := fun (m : Nat) (L : List Int) => flat_i64.lts m L
          have hvl2 := h2.vlt (n := H.length) (Nat.le_refl _)
          have hr2 := fun ks => h2.renC ks
          by_cases hk : K = st
          · rw [wV_same hk, wB_same hk, List.append_nil]
            rcases List.eq_nil_or_concat o with hoe | ⟨o', p, hoe⟩
            · have e0 : ((0 : Int) < (o.length : Int)) = False := eq_false (by rw [hoe]; simp)
              have hmj : moreJ l o c = 0 := by rw [hoe]; rfl
              rw [hmj, Int.add_zero] at ih1
              by_cases hr : S2 = K
              · have hr' := hr.symm
                subst hr'
                simp only [wV_self, wB_self, List.append_nil] at ih1
                repeat (first | (simp only [go_sem, Int.reduceLT, Int.reduceLE, Int.reduceEq, Int.reduceToNat, c1, hsol, hsol2, hsw, hL, hcn, hin, (get_app hat.get), (get_app ht), hlive, hat.live, hx, hij, hij1, hil2, hbl2, ha, hfl, hfl2, hfs, hn1, hn2, hfg, hfg1, hb0, hb1, hnr, hat.get, ht, hd1, hd2, hmj, Int.toNat_natCast, Int.add_zero, e0]) | ((with_reducible refine And.intro ?_ ?_); omega) | ((with_reducible refine isSK ?_); first | refine call_ret (l00Has (l := o) h (by omega)) ?_ ?_ | refine call_ret (ih1 (by exact Rd.own0 rfl (by rfl) (by simp ) ) (fun a b e => by cases e) h2.app (by exact get_app ht)) ?_ ?_) )
                refine EK_again (c + 1) ?_ (by omega) (by omega)
                rw [hsc]
                rw [wV_same hk, wB_same hk, List.append_nil]
                exact Weak.both rfl (by simp [go_sem]) (by simp [hx]) (by simp [go_sem, hvl2, hil, hbl] <;> omega) hw 
              · simp only [wV_new hr, wB_new hr] at ih1
                repeat (first | (simp only [go_sem, Int.reduceLT, Int.reduceLE, Int.reduceEq, Int.reduceToNat, c1, hsol, hsol2, hsw, hL, hcn, hin, (get_app hat.get), (get_app ht), hlive, hat.live, hx, hij, hij1, hil2, hbl2, ha, hfl, hfl2, hfs, hn1, hn2, hfg, hfg1, hb0, hb1, hnr, hat.get, ht, hd1, hd2, hmj, Int.toNat_natCast, Int.add_zero, e0]) | ((with_reducible refine And.intro ?_ ?_); omega) | ((with_reducible refine isSK ?_); first | refine call_ret (l00Has (l := o) h (by omega)) ?_ ?_ | refine call_ret (ih1 (by exact Rd.own0 rfl (by rfl) (by simp ) ) (fun a b e => by cases e) h2.app (by exact get_app ht)) ?_ ?_) )
                refine EK_again (c + 1) ?_ (by omega) (by omega)
                rw [hsc]
                rw [wV_new (hk ▸ hr), wB_new (hk ▸ hr)]
                exact Weak.pickC [some 2] (by simp [go_sem, hlts]) (by decide) (by simp [hx]) hw (by simp [go_sem, hil, hbl, hr2] <;> omega)
            · have hop1 : o.length = o'.length + 1 := by rw [hoe]; simp
              have e0 : ((0 : Int) < (o.length : Int)) = True := eq_true (by omega)
              have hmj : moreJ l o c = jmp l p.toNat c := by rw [hoe, List.concat_eq_append]; unfold moreJ; rw [List.getLast?_concat]
              rw [hmj] at ih1 hmr
              have hpI := hoI p (by rw [hoe]; simp)
              have hce := hat.i64 (j := o.length - 1) (by omega)
              have hpe : o[o.length - 1]'(by omega) = p := by simp [hoe]
              rw [hpe] at hce
              have tk : ((o.length : Int) - 1).toNat = o.length - 1 := by omega
              have hop : True := trivial
              have htc := rowL_cel .i64 64 (tabL l) (j := p.toNat * 8 + c) (by omega)
              rw [tabL_at (by omega) (by omega) (by omega)] at htc
              by_cases hr : S2 = K
              · have hr' := hr.symm
                subst hr'
                simp only [wV_self, wB_self, List.append_nil] at ih1
                repeat (first | (simp only [go_sem, Int.reduceLT, Int.reduceLE, Int.reduceEq, Int.reduceToNat, c1, hsol, hsol2, hsw, hL, hcn, hin, (get_app hat.get), (get_app ht), hlive, hat.live, hx, hij, hij1, hil2, hbl2, ha, hfl, hfl2, hfs, hn1, hn2, hfg, hfg1, hb0, hb1, hnr, hat.get, ht, hd1, hd2, hmj, Int.toNat_natCast, Int.add_zero, e0, hce, tk, htc, hop]) | ((with_reducible refine And.intro ?_ ?_); omega) | ((with_reducible refine isSK ?_); first | refine call_ret (l00Has (l := o) h (by omega)) ?_ ?_ | refine call_ret (ih1 (by exact Rd.own0 rfl (by rfl) (by simp ) ) (fun a b e => by cases e) h2.app (by exact get_app ht)) ?_ ?_) | ((with_reducible refine isWKr (id := 11) ?_); refine WK_drawAt 11 [[],[],[],[2],[2,3],[1,2,3,4],[1,2,3,4,5],[],[0],[0,1,2,3,4,5,6,8],[0,1,2,3,4,5,6,7,8,9],[0,1,2,3,4,5,6,7,8,9,10],[0,1,2,3,4,5,6,7,8,9,10,11]] (by kernel_rfl) ?_) )
                refine EK_again (c + 1) ?_ (by omega) (by omega)
                rw [hsc]
                rw [wV_same hk, wB_same hk, List.append_nil]
                exact Weak.both rfl (by simp [go_sem]) (by simp [hx]) (by simp [go_sem, hvl2, hil, hbl] <;> omega) hw 
              · simp only [wV_new hr, wB_new hr] at ih1
                repeat (first | (simp only [go_sem, Int.reduceLT, Int.reduceLE, Int.reduceEq, Int.reduceToNat, c1, hsol, hsol2, hsw, hL, hcn, hin, (get_app hat.get), (get_app ht), hlive, hat.live, hx, hij, hij1, hil2, hbl2, ha, hfl, hfl2, hfs, hn1, hn2, hfg, hfg1, hb0, hb1, hnr, hat.get, ht, hd1, hd2, hmj, Int.toNat_natCast, Int.add_zero, e0, hce, tk, htc, hop]) | ((with_reducible refine And.intro ?_ ?_); omega) | ((with_reducible refine isSK ?_); first | refine call_ret (l00Has (l := o) h (by omega)) ?_ ?_ | refine call_ret (ih1 (by exact Rd.own0 rfl (by rfl) (by simp ) ) (fun a b e => by cases e) h2.app (by exact get_app ht)) ?_ ?_) | ((with_reducible refine isWKr (id := 11) ?_); refine WK_drawAt 11 [[],[],[],[2],[2,3],[1,2,3,4],[1,2,3,4,5],[],[0],[0,1,2,3,4,5,6,8],[0,1,2,3,4,5,6,7,8,9],[0,1,2,3,4,5,6,7,8,9,10],[0,1,2,3,4,5,6,7,8,9,10,11]] (by kernel_rfl) ?_) )
                refine EK_again (c + 1) ?_ (by omega) (by omega)
                rw [hsc]
                rw [wV_new (hk ▸ hr), wB_new (hk ▸ hr)]
                exact Weak.pickC [some 2] (by simp [go_sem, hlts]) (by decide) (by simp [hx]) hw (by simp [go_sem, hil, hbl, hr2] <;> omega)
          · rw [wV_new hk, wB_new hk]
            have hKl : (beL K).length = n := beL_len hokK (fun e => by subst e; exact hk (impS_none himp))
            rcases List.eq_nil_or_concat o with hoe | ⟨o', p, hoe⟩
            · have e0 : ((0 : Int) < (o.length : Int)) = False := eq_false (by rw [hoe]; simp)
              have hmj : moreJ l o c = 0 := by rw [hoe]; rfl
              rw [hmj, Int.add_zero] at ih1
              by_cases hr : S2 = K
              · have hr' := hr.symm
                subst hr'
                simp only [wV_self, wB_self, List.append_nil] at ih1
                repeat (first | (simp only [go_sem, Int.reduceLT, Int.reduceLE, Int.reduceEq, Int.reduceToNat, c1, hsol, hsol2, hsw, hL, hcn, hin, (get_app hat.get), (get_app ht), hlive, hat.live, hx, hij, hij1, hil2, hbl2, ha, hfl, hfl2, hfs, hn1, hn2, hfg, hfg1, hb0, hb1, hnr, hat.get, ht, hd1, hd2, hmj, Int.toNat_natCast, Int.add_zero, e0]) | ((with_reducible refine And.intro ?_ ?_); omega) | ((with_reducible refine isSK ?_); first | refine call_ret (l00Has (l := o) h.app (by omega)) ?_ ?_ | refine call_ret (ih1 (by exact Rd.own 1 rfl (by rfl) (by simp ) ) (fun a b e => by cases e) (Rd.own0 rfl rfl (by simp [hKl])) (by exact get_app ht)) ?_ ?_) )
                refine EK_again (c + 1) ?_ (by omega) (by omega)
                rw [hsc]
                rw [wV_new hk, wB_new hk]
                exact Weak.pickC [some 0] (by simp [go_sem, hlts]) (by decide) (by simp [hx]) hw (by simp [go_sem, hil, hbl, hr2] <;> omega)
              · simp only [wV_new hr, wB_new hr] at ih1
                repeat (first | (simp only [go_sem, Int.reduceLT, Int.reduceLE, Int.reduceEq, Int.reduceToNat, c1, hsol, hsol2, hsw, hL, hcn, hin, (get_app hat.get), (get_app ht), hlive, hat.live, hx, hij, hij1, hil2, hbl2, ha, hfl, hfl2, hfs, hn1, hn2, hfg, hfg1, hb0, hb1, hnr, hat.get, ht, hd1, hd2, hmj, Int.toNat_natCast, Int.add_zero, e0]) | ((with_reducible refine And.intro ?_ ?_); omega) | ((with_reducible refine isSK ?_); first | refine call_ret (l00Has (l := o) h.app (by omega)) ?_ ?_ | refine call_ret (ih1 (by exact Rd.own 1 rfl (by rfl) (by simp ) ) (fun a b e => by cases e) (Rd.own0 rfl rfl (by simp [hKl])) (by exact get_app ht)) ?_ ?_) )
                refine EK_again (c + 1) ?_ (by omega) (by omega)
                rw [hsc]
                rw [wV_new (impS_ne himp himp2 hk), wB_new (impS_ne himp himp2 hk)]
                exact Weak.pickC [some 3] (by simp [go_sem, hlts]) (by decide) (by simp [hx]) hw (by simp [go_sem, hil, hbl, hr2] <;> omega)
            · have hop1 : o.length = o'.length + 1 := by rw [hoe]; simp
              have e0 : ((0 : Int) < (o.length : Int)) = True := eq_true (by omega)
              have hmj : moreJ l o c = jmp l p.toNat c := by rw [hoe, List.concat_eq_append]; unfold moreJ; rw [List.getLast?_concat]
              rw [hmj] at ih1 hmr
              have hpI := hoI p (by rw [hoe]; simp)
              have hce := hat.i64 (j := o.length - 1) (by omega)
              have hpe : o[o.length - 1]'(by omega) = p := by simp [hoe]
              rw [hpe] at hce
              have tk : ((o.length : Int) - 1).toNat = o.length - 1 := by omega
              have hop : True := trivial
              have htc := rowL_cel .i64 64 (tabL l) (j := p.toNat * 8 + c) (by omega)
              rw [tabL_at (by omega) (by omega) (by omega)] at htc
              by_cases hr : S2 = K
              · have hr' := hr.symm
                subst hr'
                simp only [wV_self, wB_self, List.append_nil] at ih1
                repeat (first | (simp only [go_sem, Int.reduceLT, Int.reduceLE, Int.reduceEq, Int.reduceToNat, c1, hsol, hsol2, hsw, hL, hcn, hin, (get_app hat.get), (get_app ht), hlive, hat.live, hx, hij, hij1, hil2, hbl2, ha, hfl, hfl2, hfs, hn1, hn2, hfg, hfg1, hb0, hb1, hnr, hat.get, ht, hd1, hd2, hmj, Int.toNat_natCast, Int.add_zero, e0, hce, tk, htc, hop]) | ((with_reducible refine And.intro ?_ ?_); omega) | ((with_reducible refine isSK ?_); first | refine call_ret (l00Has (l := o) h.app (by omega)) ?_ ?_ | refine call_ret (ih1 (by exact Rd.own 1 rfl (by rfl) (by simp ) ) (fun a b e => by cases e) (Rd.own0 rfl rfl (by simp [hKl])) (by exact get_app ht)) ?_ ?_) | ((with_reducible refine isWKr (id := 11) ?_); refine WK_drawAt 11 [[],[],[],[2],[2,3],[1,2,3,4],[1,2,3,4,5],[],[0],[0,1,2,3,4,5,6,8],[0,1,2,3,4,5,6,7,8,9],[0,1,2,3,4,5,6,7,8,9,10],[0,1,2,3,4,5,6,7,8,9,10,11]] (by kernel_rfl) ?_) )
                refine EK_again (c + 1) ?_ (by omega) (by omega)
                rw [hsc]
                rw [wV_new hk, wB_new hk]
                exact Weak.pickC [some 0] (by simp [go_sem, hlts]) (by decide) (by simp [hx]) hw (by simp [go_sem, hil, hbl, hr2] <;> omega)
              · simp only [wV_new hr, wB_new hr] at ih1
                repeat (first | (simp only [go_sem, Int.reduceLT, Int.reduceLE, Int.reduceEq, Int.reduceToNat, c1, hsol, hsol2, hsw, hL, hcn, hin, (get_app hat.get), (get_app ht), hlive, hat.live, hx, hij, hij1, hil2, hbl2, ha, hfl, hfl2, hfs, hn1, hn2, hfg, hfg1, hb0, hb1, hnr, hat.get, ht, hd1, hd2, hmj, Int.toNat_natCast, Int.add_zero, e0, hce, tk, htc, hop]) | ((with_reducible refine And.intro ?_ ?_); omega) | ((with_reducible refine isSK ?_); first | refine call_ret (l00Has (l := o) h.app (by omega)) ?_ ?_ | refine call_ret (ih1 (by exact Rd.own 1 rfl (by rfl) (by simp ) ) (fun a b e => by cases e) (Rd.own0 rfl rfl (by simp [hKl])) (by exact get_app ht)) ?_ ?_) | ((with_reducible refine isWKr (id := 11) ?_); refine WK_drawAt 11 [[],[],[],[2],[2,3],[1,2,3,4],[1,2,3,4,5],[],[0],[0,1,2,3,4,5,6,8],[0,1,2,3,4,5,6,7,8,9],[0,1,2,3,4,5,6,7,8,9,10],[0,1,2,3,4,5,6,7,8,9,10,11]] (by kernel_rfl) ?_) )
                refine EK_again (c + 1) ?_ (by omega) (by omega)
                rw [hsc]
                rw [wV_new (impS_ne himp himp2 hk), wB_new (impS_ne himp himp2 hk)]
                exact Weak.pickC [some 3] (by simp [go_sem, hlts]) (by decide) (by simp [hx]) hw (by simp [go_sem, hil, hbl, hr2] <;> omega)
        · rw [hin, if_pos rfl] at hsc
          repeat (first | (simp only [go_sem, Int.reduceLT, Int.reduceLE, Int.reduceEq, Int.reduceToNat, hsol, hcn, hin]) | ((with_reducible refine And.intro ?_ ?_); omega) | ((with_reducible refine isSK ?_); refine call_ret (l00Has (l := o) h.app (by omega)) ?_ ?_) )
          refine EK_again (c + 1) ?_ (by omega) (by omega)
          rw [hsc]
          exact Weak.slots (by simp [go_sem, hsw])
      · have : c = n := by omega
        subst this
        have hcn : ((c : Int) < (c : Int)) = False := eq_false (by omega)
        repeat ((simp only [go_sem, Int.reduceLT, Int.reduceLE, Int.reduceEq, Int.reduceToNat, hcn, hsw]) )
        refine ret_at hq _ (.inl rfl) (by simp) ?_
        simp [go_sem, hsw]
    · refine cal_fn 69 mixed Tryz.func48 Tryz.ntmps48 Tryz.results48 rfl rfl rfl fun hw cx hx hq => ?_
      repeat ((simp only [go_sem, Int.reduceLT, Int.reduceLE, Int.reduceEq, Int.reduceToNat, hsol, hsol2, hL, c1, c2, e3]) )
      refine WK_for (fun c : Nat => ⟨[.p bt 0, .v (.int .i64 n), .s i0 off o.length cv, .v (.int .i64 s), wV st (srK l n f o s st c) w H.length n, .v (.int .i64 (leI (srK l n f o s st c))), .any, .any, .any, .any, .any, .any, .any, .any, .v (.int .i64 c)] ++ junk 60, H ++ wB st (srK l n f o s st c) 2⟩) (fun c => c ≤ n) (fun c => n - c) 0 ?_ (Nat.zero_le _) fun c hc => ?_
      · simp only [srK, wV_same, wB_same, List.append_nil]
        exact Weak.slots (by simp [go_sem, hsol2])
      have himp := srK_imp (l := l) (st := st) (f := f) h8 (by omega) hs0 hs1 c
      have hokK := impS_ok himp hst
      have hsw := wV_solid hsol2
      have hsc : srK l n f o s st (c + 1) = if hasI o c = true then srK l n f o s st c else srch l n f (o ++ [(c : Int)]) (s + moreJ l o c) (srK l n f o s st c) := rfl
      rcases Int.lt_or_le (c : Int) n with hcl | hcl
      · have hcn : ((c : Int) < (n : Int)) = True := eq_true hcl
        generalize hK : srK l n f o s st c = K at himp hokK hsc ⊢
        cases hin : hasI o c
        · rw [hin, if_neg (by simp)] at hsc
          have hmr := moreJ_range l o c
          have himp2 := srch_imp (l := l) (st := K) h8 f (o ++ [(c : Int)]) (s + moreJ l o c) (by simp; omega) (by omega) (by simp; omega)
          have ih1 : ∀ {H : List Blk} {v w : V} {wl : List Int} (_ : Rd H v i64C (o ++ [(c : Int)])) (_ : ∀ a b, v ≠ .v (.slice none a b)) (_ : Rd H w i64C wl) (_ : H[bt]? = some ⟨rowL .i64 64 (tabL l), ty, kk⟩), Cal Tryz.prog 48 [.p bt 0, .v (.int .i64 n), v, .v (.int .i64 (s + moreJ l o c)), w, .v (.int .i64 (leI K))] H fun u H' => u = .t [wV K (srch l n f (o ++ [(c : Int)]) (s + moreJ l o c) K) w H.length n, .v (.int .i64 (leI (srch l n f (o ++ [(c : Int)]) (s + moreJ l o c) K)))] ∧ H' = H ++ wB K (srch l n f (o ++ [(c : Int)]) (s + moreJ l o c) K) 2 := fun a1 a2 a3 a4 => ih a1 a2 (okI_snoc hoI (by omega)) (by simp; omega) (by omega) (by simp; omega) hokK a3 a4 hlive
          generalize srch l n f (o ++ [(c : Int)]) (s + moreJ l o c) K = S2 at ih1 hsc himp2
          have hfl2 : (o ++ [(c : Int)]).length = o.length + 1 := by simp
          have hfs : o.flatMap i64C ++ [V.v (.int .i64 (c : Int))] = (o ++ [(c : Int)]).flatMap i64C := by simp [i64C]
          have hn1 : norefH H.length H := norefH_wf hw (Nat.le_refl _)
          have hn2 : norefH (H.length + 1) H := norefH_wf hw (by omega)
          have hij : (i0 = H.length) = False := eq_false (by omega)
          have hij1 : (i0 = H.length + 1) = False := eq_false (by omega)
          have hil2 : (i0 < H.length) = True := eq_true hil
          have hbl := (List.getElem?_eq_some_iff.1 ht).1
          have hbl2 : (bt < H.length) = True := eq_true hbl
          have hfg := h2.forget (n := H.length) (by omega)
          have hfg1 := h2.forget (n := H.length + 1) (by omega)
          have hb0 : (bt = H.length) = False := eq_false (by omega)
          have hb1 : (bt = H.length + 1) = False := eq_false (by omega)
          have hd1 : (H.length + 1 = H.length) = False := eq_false (by omega)
          have hd2 : (H.length = H.length + 1) = False := eq_false (by omega)
          have hnr := fun (m : Nat) (L : List Int) => flat_i64.norefs m L
          have hlts := fun (m : Nat) (L : List Int) => flat_i64.lts m L
          have hvl2 := h2.vlt (n := H.length) (Nat.le_refl _)
          have hr2 := fun ks => h2.renC ks
          by_cases hk : K = st
          · rw [wV_same hk, wB_same hk, List.append_nil]
            rcases List.eq_nil_or_concat o with hoe | ⟨o', p, hoe⟩
            · have e0 : ((0 : Int) < (o.length : Int)) = False := eq_false (by rw [hoe]; simp)
              have hmj : moreJ l o c = 0 := by rw [hoe]; rfl
              rw [hmj, Int.add_zero] at ih1
              by_cases hr : S2 = K
              · have hr' := hr.symm
                subst hr'
                simp only [wV_self, wB_self, List.append_nil] at ih1
                repeat (first | (simp only [go_sem, Int.reduceLT, Int.reduceLE, Int.reduceEq, Int.reduceToNat, c1, c2, hsol, hsol2, hsw, hL, hcn, hin, (get_app hat.get), (get_app ht), hlive, hat.live, hx, hij, hij1, hil2, hbl2, ha, hfl, hfl2, hfs, hn1, hn2, hfg, hfg1, hb0, hb1, hnr, hat.get, ht, hd1, hd2, hmj, Int.toNat_natCast, Int.add_zero, e0]) | ((with_reducible refine And.intro ?_ ?_); omega) | ((with_reducible refine isSK ?_); first | refine call_ret (l00Has (l := o) h (by omega)) ?_ ?_ | refine call_ret (ih1 (by exact Rd.own0 rfl (by rfl) (by simp ) ) (fun a b e => by cases e) h2.app (by exact get_app ht)) ?_ ?_) )
                refine EK_again (c + 1) ?_ (by omega) (by omega)
                rw [hsc]
                rw [wV_same hk, wB_same hk, List.append_nil]
                exact Weak.both rfl (by simp [go_sem]) (by simp [hx]) (by simp [go_sem, hvl2, hil, hbl] <;> omega) hw 
              · simp only [wV_new hr, wB_new hr] at ih1
                repeat (first | (simp only [go_sem, Int.reduceLT, Int.reduceLE, Int.reduceEq, Int.reduceToNat, c1, c2, hsol, hsol2, hsw, hL, hcn, hin, (get_app hat.get), (get_app ht), hlive, hat.live, hx, hij, hij1, hil2, hbl2, ha, hfl, hfl2, hfs, hn1, hn2, hfg, hfg1, hb0, hb1, hnr, hat.get, ht, hd1, hd2, hmj, Int.toNat_natCast, Int.add_zero, e0]) | ((with_reducible refine And.intro ?_ ?_); omega) | ((with_reducible refine isSK ?_); first | refine call_ret (l00Has (l := o) h (by omega)) ?_ ?_ | refine call_ret (ih1 (by exact Rd.own0 rfl (by rfl) (by simp ) ) (fun a b e => by cases e) h2.app (by exact get_app ht)) ?_ ?_) )
                refine EK_again (c + 1) ?_ (by omega) (by omega)
                rw [hsc]
                rw [wV_new (hk ▸ hr), wB_new (hk ▸ hr)]
                exact Weak.pickC [some 2] (by simp [go_sem, hlts]) (by decide) (by simp [hx]) hw (by simp [go_sem, hil, hbl, hr2] <;> omega)
            · have hop1 : o.length = o'.length + 1 := by rw [hoe]; simp
              have e0 : ((0 : Int) < (o.length : Int)) = True := eq_true (by omega)
              have hmj : moreJ l o c = jmp l p.toNat c := by rw [hoe, List.concat_eq_append]; unfold moreJ; rw [List.getLast?_concat]
              rw [hmj] at ih1 hmr
              have hpI := hoI p (by rw [hoe]; simp)
              have hce := hat.i64 (j := o.length - 1) (by omega)
              have hpe : o[o.length - 1]'(by omega) = p := by simp [hoe]
              rw [hpe] at hce
              have tk : ((o.length : Int) - 1).toNat = o.length - 1 := by omega
              have hop : True := trivial
              have htc := rowL_cel .i64 64 (tabL l) (j := p.toNat * 8 + c) (by omega)
              rw [tabL_at (by omega) (by omega) (by omega)] at htc
              by_cases hr : S2 = K
              · have hr' := hr.symm
                subst hr'
                simp only [wV_self, wB_self, List.append_nil] at ih1
                repeat (first | (simp only [go_sem, Int.reduceLT, Int.reduceLE, Int.reduceEq, Int.reduceToNat, c1, c2, hsol, hsol2, hsw, hL, hcn, hin, (get_app hat.get), (get_app ht), hlive, hat.live, hx, hij, hij1, hil2, hbl2, ha, hfl, hfl2, hfs, hn1, hn2, hfg, hfg1, hb0, hb1, hnr, hat.get, ht, hd1, hd2, hmj, Int.toNat_natCast, Int.add_zero, e0, hce, tk, htc, hop]) | ((with_reducible refine And.intro ?_ ?_); omega) | ((with_reducible refine isSK ?_); first | refine call_ret (l00Has (l := o) h (by omega)) ?_ ?_ | refine call_ret (ih1 (by exact Rd.own0 rfl (by rfl) (by simp ) ) (fun a b e => by cases e) h2.app (by exact get_app ht)) ?_ ?_) | ((with_reducible refine isWKr (id := 11) ?_); refine WK_drawAt 11 [[],[],[],[2],[2,3],[1,2,3,4],[1,2,3,4,5],[],[0],[0,1,2,3,4,5,6,8],[0,1,2,3,4,5,6,7,8,9],[0,1,2,3,4,5,6,7,8,9,10],[0,1,2,3,4,5,6,7,8,9,10,11]] (by kernel_rfl) ?_) )
                refine EK_again (c + 1) ?_ (by omega) (by omega)
                rw [hsc]
                rw [wV_same hk, wB_same hk, List.append_nil]
                exact Weak.both rfl (by simp [go_sem]) (by simp [hx]) (by simp [go_sem, hvl2, hil, hbl] <;> omega) hw 
              · simp only [wV_new hr, wB_new hr] at ih1
                repeat (first | (simp only [go_sem, Int.reduceLT, Int.reduceLE, Int.reduceEq, Int.reduceToNat, c1, c2, hsol, hsol2, hsw, hL, hcn, hin, (get_app hat.get), (get_app ht), hlive, hat.live, hx, hij, hij1, hil2, hbl2, ha, hfl, hfl2, hfs, hn1, hn2, hfg, hfg1, hb0, hb1, hnr, hat.get, ht, hd1, hd2, hmj, Int.toNat_natCast, Int.add_zero, e0, hce, tk, htc, hop]) | ((with_reducible refine And.intro ?_ ?_); omega) | ((with_reducible refine isSK ?_); first | refine call_ret (l00Has (l := o) h (by omega)) ?_ ?_ | refine call_ret (ih1 (by exact Rd.own0 rfl (by rfl) (by simp ) ) (fun a b e => by cases e) h2.app (by exact get_app ht)) ?_ ?_) | ((with_reducible refine isWKr (id := 11) ?_); refine WK_drawAt 11 [[],[],[],[2],[2,3],[1,2,3,4],[1,2,3,4,5],[],[0],[0,1,2,3,4,5,6,8],[0,1,2,3,4,5,6,7,8,9],[0,1,2,3,4,5,6,7,8,9,10],[0,1,2,3,4,5,6,7,8,9,10,11]] (by kernel_rfl) ?_) )
                refine EK_again (c + 1) ?_ (by omega) (by omega)
                rw [hsc]
                rw [wV_new (hk ▸ hr), wB_new (hk ▸ hr)]
                exact Weak.pickC [some 2] (by simp [go_sem, hlts]) (by decide) (by simp [hx]) hw (by simp [go_sem, hil, hbl, hr2] <;> omega)
          · rw [wV_new hk, wB_new hk]
            have hKl : (beL K).length = n := beL_len hokK (fun e => by subst e; exact hk (impS_none himp))
            rcases List.eq_nil_or_concat o with hoe | ⟨o', p, hoe⟩
            · have e0 : ((0 : Int) < (o.length : Int)) = False := eq_false (by rw [hoe]; simp)
              have hmj : moreJ l o c = 0 := by rw [hoe]; rfl
              rw [hmj, Int.add_zero] at ih1
              by_cases hr : S2 = K
              · have hr' := hr.symm
                subst hr'
                simp only [wV_self, wB_self, List.append_nil] at ih1
                repeat (first | (simp only [go_sem, Int.reduceLT, Int.reduceLE, Int.reduceEq, Int.reduceToNat, c1, c2, hsol, hsol2, hsw, hL, hcn, hin, (get_app hat.get), (get_app ht), hlive, hat.live, hx, hij, hij1, hil2, hbl2, ha, hfl, hfl2, hfs, hn1, hn2, hfg, hfg1, hb0, hb1, hnr, hat.get, ht, hd1, hd2, hmj, Int.toNat_natCast, Int.add_zero, e0]) | ((with_reducible refine And.intro ?_ ?_); omega) | ((with_reducible refine isSK ?_); first | refine call_ret (l00Has (l := o) h.app (by omega)) ?_ ?_ | refine call_ret (ih1 (by exact Rd.own 1 rfl (by rfl) (by simp ) ) (fun a b e => by cases e) (Rd.own0 rfl rfl (by simp [hKl])) (by exact get_app ht)) ?_ ?_) )
                refine EK_again (c + 1) ?_ (by omega) (by omega)
                rw [hsc]
                rw [wV_new hk, wB_new hk]
                exact Weak.pickC [some 0] (by simp [go_sem, hlts]) (by decide) (by simp [hx]) hw (by simp [go_sem, hil, hbl, hr2] <;> omega)
              · simp only [wV_new hr, wB_new hr] at ih1
                repeat (first | (simp only [go_sem, Int.reduceLT, Int.reduceLE, Int.reduceEq, Int.reduceToNat, c1, c2, hsol, hsol2, hsw, hL, hcn, hin, (get_app hat.get), (get_app ht), hlive, hat.live, hx, hij, hij1, hil2, hbl2, ha, hfl, hfl2, hfs, hn1, hn2, hfg, hfg1, hb0, hb1, hnr, hat.get, ht, hd1, hd2, hmj, Int.toNat_natCast, Int.add_zero, e0]) | ((with_reducible refine And.intro ?_ ?_); omega) | ((with_reducible refine isSK ?_); first | refine call_ret (l00Has (l := o) h.app (by omega)) ?_ ?_ | refine call_ret (ih1 (by exact Rd.own 1 rfl (by rfl) (by simp ) ) (fun a b e => by cases e) (Rd.own0 rfl rfl (by simp [hKl])) (by exact get_app ht)) ?_ ?_) )
                refine EK_again (c + 1) ?_ (by omega) (by omega)
                rw [hsc]
                rw [wV_new (impS_ne himp himp2 hk), wB_new (impS_ne himp himp2 hk)]
                exact Weak.pickC [some 3] (by simp [go_sem, hlts]) (by decide) (by simp [hx]) hw (by simp [go_sem, hil, hbl, hr2] <;> omega)
            · have hop1 : o.length = o'.length + 1 := by rw [hoe]; simp
              have e0 : ((0 : Int) < (o.length : Int)) = True := eq_true (by omega)
              have hmj : moreJ l o c = jmp l p.toNat c := by rw [hoe, List.concat_eq_append]; unfold moreJ; rw [List.getLast?_concat]
              rw [hmj] at ih1 hmr
              have hpI := hoI p (by rw [hoe]; simp)
              have hce := hat.i64 (j := o.length - 1) (by omega)
              have hpe : o[o.length - 1]'(by omega) = p := by simp [hoe]
              rw [hpe] at hce
              have tk : ((o.length : Int) - 1).toNat = o.length - 1 := by omega
              have hop : True := trivial
              have htc := rowL_cel .i64 64 (tabL l) (j := p.toNat * 8 + c) (by omega)
              rw [tabL_at (by omega) (by omega) (by omega)] at htc
              by_cases hr : S2 = K
              · have hr' := hr.symm
                subst hr'
                simp only [wV_self, wB_self, List.append_nil] at ih1
                repeat (first | (simp only [go_sem, Int.reduceLT, Int.reduceLE, Int.reduceEq, Int.reduceToNat, c1, c2, hsol, hsol2, hsw, hL, hcn, hin, (get_app hat.get), (get_app ht), hlive, hat.live, hx, hij, hij1, hil2, hbl2, ha, hfl, hfl2, hfs, hn1, hn2, hfg, hfg1, hb0, hb1, hnr, hat.get, ht, hd1, hd2, hmj, Int.toNat_natCast, Int.add_zero, e0, hce, tk, htc, hop]) | ((with_reducible refine And.intro ?_ ?_); omega) | ((with_reducible refine isSK ?_); first | refine call_ret (l00Has (l := o) h.app (by omega)) ?_ ?_ | refine call_ret (ih1 (by exact Rd.own 1 rfl (by rfl) (by simp ) ) (fun a b e => by cases e) (Rd.own0 rfl rfl (by simp [hKl])) (by exact get_app ht)) ?_ ?_) | ((with_reducible refine isWKr (id := 11) ?_); refine WK_drawAt 11 [[],[],[],[2],[2,3],[1,2,3,4],[1,2,3,4,5],[],[0],[0,1,2,3,4,5,6,8],[0,1,2,3,4,5,6,7,8,9],[0,1,2,3,4,5,6,7,8,9,10],[0,1,2,3,4,5,6,7,8,9,10,11]] (by kernel_rfl) ?_) )
                refine EK_again (c + 1) ?_ (by omega) (by omega)
                rw [hsc]
                rw [wV_new hk, wB_new hk]
                exact Weak.pickC [some 0] (by simp [go_sem, hlts]) (by decide) (by simp [hx]) hw (by simp [go_sem, hil, hbl, hr2] <;> omega)
              · simp only [wV_new hr, wB_new hr] at ih1
                repeat (first | (simp only [go_sem, Int.reduceLT, Int.reduceLE, Int.reduceEq, Int.reduceToNat, c1, c2, hsol, hsol2, hsw, hL, hcn, hin, (get_app hat.get), (get_app ht), hlive, hat.live, hx, hij, hij1, hil2, hbl2, ha, hfl, hfl2, hfs, hn1, hn2, hfg, hfg1, hb0, hb1, hnr, hat.get, ht, hd1, hd2, hmj, Int.toNat_natCast, Int.add_zero, e0, hce, tk, htc, hop]) | ((with_reducible refine And.intro ?_ ?_); omega) | ((with_reducible refine isSK ?_); first | refine call_ret (l00Has (l := o) h.app (by omega)) ?_ ?_ | refine call_ret (ih1 (by exact Rd.own 1 rfl (by rfl) (by simp ) ) (fun a b e => by cases e) (Rd.own0 rfl rfl (by simp [hKl])) (by exact get_app ht)) ?_ ?_) | ((with_reducible refine isWKr (id := 11) ?_); refine WK_drawAt 11 [[],[],[],[2],[2,3],[1,2,3,4],[1,2,3,4,5],[],[0],[0,1,2,3,4,5,6,8],[0,1,2,3,4,5,6,7,8,9],[0,1,2,3,4,5,6,7,8,9,10],[0,1,2,3,4,5,6,7,8,9,10,11]] (by kernel_rfl) ?_) )
                refine EK_again (c + 1) ?_ (by omega) (by omega)
                rw [hsc]
                rw [wV_new (impS_ne himp himp2 hk), wB_new (impS_ne himp himp2 hk)]
                exact Weak.pickC [some 3] (by simp [go_sem, hlts]) (by decide) (by simp [hx]) hw (by simp [go_sem, hil, hbl, hr2] <;> omega)
        · rw [hin, if_pos rfl] at hsc
          repeat (first | (simp only [go_sem, Int.reduceLT, Int.reduceLE, Int.reduceEq, Int.reduceToNat, hsol, hcn, hin]) | ((with_reducible refine And.intro ?_ ?_); omega) | ((with_reducible refine isSK ?_); refine call_ret (l00Has (l := o) h.app (by omega)) ?_ ?_) )
          refine EK_again (c + 1) ?_ (by omega) (by omega)
          rw [hsc]
          exact Weak.slots (by simp [go_sem, hsw])
      · have : c = n := by omega
        subst this
        have hcn : ((c : Int) < (c : Int)) = False := eq_false (by omega)
        repeat ((simp only [go_sem, Int.reduceLT, Int.reduceLE, Int.reduceEq, Int.reduceToNat, hcn, hsw]) )
        refine ret_at hq _ (.inl rfl) (by simp) ?_
        simp [go_sem, hsw]
end Go.Proofs.YtaekjojblkhfdaaGreatDoor
