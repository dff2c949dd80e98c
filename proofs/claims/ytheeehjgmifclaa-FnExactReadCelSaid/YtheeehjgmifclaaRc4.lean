/- Contracts of functions of the translated program, by the walk. -/
import Derived.Test.YtheeehjgmifclaaRc3
set_option linter.unusedVariables false
set_option linter.unusedSimpArgs false
set_option maxRecDepth 8000
set_option maxHeartbeats 4000000
namespace Go.Proofs.Ytheeehjgmifclaa
open Go Go.Sx
theorem splA_mem {by_ : Int} : ∀ (t acc : List Int), ∀ l ∈ splA by_ acc t, ∀ c ∈ l, c ∈ acc ∨ c ∈ t
  | [], acc, l, hl, c, hc => by
    have : l = acc := by simpa [splA] using hl
    subst this; exact .inl hc
  | a :: t, acc, l, hl, c, hc => by
    have hs : splA by_ acc (a :: t) = if a = by_ then acc :: splA by_ [] t else splA by_ (acc ++ [a]) t := rfl
    rw [hs] at hl
    split at hl
    · rcases List.mem_cons.1 hl with rfl | hl
      · exact .inl hc
      · rcases splA_mem t [] l hl c hc with h | h
        · cases h
        · exact .inr (List.mem_cons_of_mem _ h)
    · rcases splA_mem t (acc ++ [a]) l hl c hc with h | h
      · rcases List.mem_append.1 h with h | h
        · exact .inl h
        · exact .inr (by simp at h; simp [h])
      · exact .inr (List.mem_cons_of_mem _ h)
theorem spl_8 {by_ : Int} {t : List Int} (h : B8 t) : ∀ l ∈ spl by_ t, B8 l := fun l hl c hc => by
  rcases splA_mem t [] l hl c hc with h2 | h2
  · cases h2
  · exact h c h2
theorem nthL_8 {by_ : Int} {t : List Int} (h : B8 t) (y : Nat) : B8 (nthL (spl by_ t) y) := by
  unfold nthL
  cases e : (spl by_ t)[y]? with
  | none => intro x hx; cases hx
  | some l => exact spl_8 h l (List.mem_of_getElem? e)
theorem bstr_emp {l : List Int} : ((bstr l).toList = (ByteArray.mk #[]).toList) = (l = []) := by
  rw [str_eq, bs0]
  apply propext
  constructor
  · intro h
    have := congrArg ByteArray.size h
    rw [bstr_size, bstr_size] at this
    exact List.length_eq_zero_iff.1 this
  · rintro rfl; rfl
noncomputable def rcF' (t : List Int) : Nat → Int := if goodT 12 t then rcF t else zeroF
noncomputable def rcG' (t : List Int) : Nat → Int := if goodT 12 t then rcG t else zeroF
noncomputable def rcC (t : List Int) : Int := if goodT 12 t then 0 else 5
theorem rc_bad {t : List Int} (h : ¬ goodT 12 t) : rcF' t = zeroF ∧ rcG' t = zeroF ∧ rcC t = 5 := ⟨if_neg h, if_neg h, if_neg h⟩
theorem rc_good {t : List Int} (h : goodT 12 t) : rcF' t = rcF t ∧ rcG' t = rcG t ∧ rcC t = 0 := ⟨if_pos h, if_pos h, if_pos h⟩
theorem row24 : rowL .u16 24 (fun _ => 0) = rowL .u16 12 (zeroF) ++ rowL .u16 12 (zeroF) := cel0 (fun _ => 0)
theorem whP_step (p : Nat → Bool) (n : Nat) : whP p (n + 1) = if p n = true then putF (whP p n) ((n % 12 : Nat) : Int) ((n / 12 : Nat) : Int) else whP p n := rfl
theorem specReadCel {H : List Blk} {t : List Int} (ht : B8 t) (hl : t.length ≤ 1000000) :
    Cal Try.prog 59 [.v (.string (bstr t))] H fun u H' => u = .t [.a (rowL .u16 12 (rcF' t) ++ rowL .u16 12 (rcG' t)), .v (.int .i64 (rcC t))] ∧ H' = H := by
  have hgl := good_lines 12 t
  have hfl : ((spl 10 t).flatMap sC).length = (spl 10 t).length := by rw [flat_sC.flen, Nat.mul_one]
  refine cal_fn 61 mixed Try.func59 Try.ntmps59 Try.results59 rfl rfl rfl fun hw cx hx hq => ?_
  by_cases h13 : (spl 10 t).length = 13
  case neg =>
    have hng : ¬ goodT 12 t := fun h => h13 (hgl.1 h).1
    have e13 : (((spl 10 t).length : Int) = 13) = False := eq_false (by omega)
    rw [(rc_bad hng).1, (rc_bad hng).2.1, (rc_bad hng).2.2] at hq
    repeat (first | (simp only [go_sem, Int.reduceLT, Int.reduceLE, Int.reduceEq, Int.reduceToNat, rowL_rep, row24, e13]) | ((with_reducible refine And.intro ?_ ?_); omega) | ((with_reducible refine isSK ?_); first | (refine call_ret (l01Split ht hl) (by simp only [go_sem, Int.reduceLT, Int.reduceLE, Int.reduceEq, Int.reduceToNat, rowL_rep, row24, e13]) ?_)) | ((with_reducible refine isMC ?_); first | (refine mcall_ret (l01Split ht hl) (by simp only [go_sem, Int.reduceLT, Int.reduceLE, Int.reduceEq, Int.reduceToNat, rowL_rep, row24, e13]) (by simp only [go_sem, Int.reduceLT, Int.reduceLE, Int.reduceEq, Int.reduceToNat, rowL_rep, row24, e13]) ?_)) | ((with_reducible refine And.intro ?_ ?_); first | (with_reducible rfl) | assumption | (simp only [go_sem]; done)))
    refine ret_cut hq hw _ (.inl rfl) ?_
    simp [go_sem]
  have e13 : (((spl 10 t).length : Int) = 13) = True := eq_true (by omega)
  have hcl := fun (y : Nat) (hy : y < (spl 10 t).length) => (At.mk0 (H := H) (L := []) (cs := (spl 10 t).flatMap sC) (t := 9) (k := .own 1) rfl).str (j := y) hy
  have hnl : ∀ (y : Nat) (hy : y < (spl 10 t).length), (spl 10 t)[y] = nthL (spl 10 t) y := fun y hy => by unfold nthL; rw [List.getElem?_eq_getElem hy]; rfl
  have hc12 := hcl 12 (by omega)
  rw [hnl] at hc12
  simp only [Nat.zero_add] at hc12
  by_cases he : nthL (spl 10 t) 12 = []
  case neg =>
    have hng : ¬ goodT 12 t := fun h => he (hgl.1 h).2.1
    have ee : (nthL (spl 10 t) 12 = []) = False := eq_false he
    rw [(rc_bad hng).1, (rc_bad hng).2.1, (rc_bad hng).2.2] at hq
    repeat (first | (simp only [go_sem, Int.reduceLT, Int.reduceLE, Int.reduceEq, Int.reduceToNat, rowL_rep, row24, e13, hc12, bstr_emp, ee, hfl]) | ((with_reducible refine And.intro ?_ ?_); omega) | ((with_reducible refine isSK ?_); first | (refine call_ret (l01Split ht hl) (by simp only [go_sem, Int.reduceLT, Int.reduceLE, Int.reduceEq, Int.reduceToNat, rowL_rep, row24, e13, hc12, bstr_emp, ee, hfl]) ?_)) | ((with_reducible refine isMC ?_); first | (refine mcall_ret (l01Split ht hl) (by simp only [go_sem, Int.reduceLT, Int.reduceLE, Int.reduceEq, Int.reduceToNat, rowL_rep, row24, e13, hc12, bstr_emp, ee, hfl]) (by simp only [go_sem, Int.reduceLT, Int.reduceLE, Int.reduceEq, Int.reduceToNat, rowL_rep, row24, e13, hc12, bstr_emp, ee, hfl]) ?_)) | ((with_reducible refine And.intro ?_ ?_); first | (with_reducible rfl) | assumption | (simp only [go_sem]; done)))
    refine ret_cut hq hw _ (.inl rfl) ?_
    simp [go_sem]
  have ee : (nthL (spl 10 t) 12 = []) = True := eq_true he
  repeat (first | (simp only [go_sem, Int.reduceLT, Int.reduceLE, Int.reduceEq, Int.reduceToNat, rowL_rep, row24, e13, hc12, bstr_emp, ee, hfl]) | ((with_reducible refine And.intro ?_ ?_); omega) | ((with_reducible refine isSK ?_); first | (refine call_ret (l01Split ht hl) (by simp only [go_sem, Int.reduceLT, Int.reduceLE, Int.reduceEq, Int.reduceToNat, rowL_rep, row24, e13, hc12, bstr_emp, ee, hfl]) ?_)) | ((with_reducible refine isMC ?_); first | (refine mcall_ret (l01Split ht hl) (by simp only [go_sem, Int.reduceLT, Int.reduceLE, Int.reduceEq, Int.reduceToNat, rowL_rep, row24, e13, hc12, bstr_emp, ee, hfl]) (by simp only [go_sem, Int.reduceLT, Int.reduceLE, Int.reduceEq, Int.reduceToNat, rowL_rep, row24, e13, hc12, bstr_emp, ee, hfl]) ?_)) | ((with_reducible refine And.intro ?_ ?_); first | (with_reducible rfl) | assumption | (simp only [go_sem]; done)))
  refine WK_for (fun y : Nat => ⟨[.v (.string (bstr t)), .any, .p H.length 0, .any, .s (H.length + 1) 0 (spl 10 t).length (.u 0), .p (H.length + 2) 0, .v (.int .i64 y)] ++ junk 55, H ++ [⟨rowL .u16 12 (zeroF) ++ rowL .u16 12 (zeroF), 42, .fix⟩, ⟨(spl 10 t).flatMap sC, 9, .own 1⟩, ⟨rowL .u16 12 (whP (isC t 35) (12 * y)) ++ rowL .u16 12 (whP (isK t) (12 * y)), 42, .fix⟩]⟩) (fun y => y ≤ 12 ∧ ∀ y', y' < y → (nthL (spl 10 t) y').length = 12 ∧ ∀ c ∈ nthL (spl 10 t) y', okCh c) (fun y => 12 - y) 0 (Weak.slots ?_) ⟨Nat.zero_le _, fun y' hy' => absurd hy' (Nat.not_lt_zero _)⟩ fun y hyy => ?_
  · simp [go_sem]
  rcases Int.lt_or_le (y : Int) 12 with hc | hc
  · have hyi : ((y : Int) < 12) = True := eq_true hc
    have hcy := hcl y (by omega)
    rw [hnl] at hcy
    simp only [Nat.zero_add] at hcy
    by_cases h12 : (nthL (spl 10 t) y).length = 12
    case neg =>
      have hng : ¬ goodT 12 t := fun h => h12 ((hgl.1 h).2.2 y (by omega)).1
      have e12 : (((nthL (spl 10 t) y).length : Int) = 12) = False := eq_false (by omega)
      rw [(rc_bad hng).1, (rc_bad hng).2.1, (rc_bad hng).2.2] at hq
      repeat (first | (simp only [go_sem, Int.reduceLT, Int.reduceLE, Int.reduceEq, Int.reduceToNat, hyi, hcy, bstr_size, e12, hfl, rowL_rep, row24]) | ((with_reducible refine And.intro ?_ ?_); omega) | ((with_reducible refine And.intro ?_ ?_); first | (with_reducible rfl) | assumption | (simp only [go_sem]; done)))
      refine ret_cut hq hw _ (.inl rfl) ?_
      simp [go_sem]
    have e12 : (((nthL (spl 10 t) y).length : Int) = 12) = True := eq_true (by omega)
    repeat (first | (simp only [go_sem, Int.reduceLT, Int.reduceLE, Int.reduceEq, Int.reduceToNat, hyi, hcy, bstr_size, e12, hfl]) | ((with_reducible refine And.intro ?_ ?_); omega) | ((with_reducible refine And.intro ?_ ?_); first | (with_reducible rfl) | assumption | (simp only [go_sem]; done)))
    refine WK_for (fun x : Nat => ⟨[.v (.string (bstr t)), .any, .p H.length 0, .any, .s (H.length + 1) 0 (spl 10 t).length (.u 0), .p (H.length + 2) 0, .v (.int .i64 y), .v (.int .i64 x)] ++ junk 54, H ++ [⟨rowL .u16 12 (zeroF) ++ rowL .u16 12 (zeroF), 42, .fix⟩, ⟨(spl 10 t).flatMap sC, 9, .own 1⟩, ⟨rowL .u16 12 (whP (isC t 35) (12 * y + x)) ++ rowL .u16 12 (whP (isK t) (12 * y + x)), 42, .fix⟩]⟩) (fun x => x ≤ 12 ∧ ∀ c ∈ (nthL (spl 10 t) y).take x, okCh c) (fun x => 12 - x) 0 (Weak.slots ?_) ⟨Nat.zero_le _, fun c hc => by simp at hc⟩ fun x hxx => ?_
    · simp [go_sem]
    rcases Int.lt_or_le (x : Int) 12 with hc2 | hc2
    · have hxi : ((x : Int) < 12) = True := eq_true hc2
      have hxl : x < (nthL (spl 10 t) y).length := by omega
      have hcE := str_at _ (nthL_8 ht y) hxl
      have hat := spl_at y t (fun y' hy' => (hyy.2 y' hy').1) (by omega) x hxl
      rw [List.getElem?_eq_getElem hxl] at hat
      have hch : chA t (12 * y + x) = (nthL (spl 10 t) y)[x] := by
        unfold chA
        rw [show 13 * ((12 * y + x) / 12) + (12 * y + x) % 12 = 13 * y + x by omega, hat]; rfl
      have hstep : ∀ c ∈ (nthL (spl 10 t) y).take (x + 1), c ∈ (nthL (spl 10 t) y).take x ∨ c = (nthL (spl 10 t) y)[x] := fun c hc => by
        rw [List.take_succ_eq_append_getElem hxl] at hc
        rcases List.mem_append.1 hc with h | h
        · exact .inl h
        · exact .inr (List.mem_singleton.1 h)
      have hmem := List.getElem_mem hxl
      have hbx : ((x : Int) < ((nthL (spl 10 t) y).length : Int)) = True := eq_true (by omega)
      generalize hgc : (nthL (spl 10 t) y)[x] = ch at hcE hat hch hstep hmem
      by_cases k35 : ch = 35
      · have hk1 : (ch = 35) = True := eq_true k35
        have hokc : okCh ch := .inl k35
        have hk := k35
        have hwF : whP (isC t 35) (12 * y + (x + 1)) = putF (whP (isC t 35) (12 * y + x)) x y := by rw [show 12 * y + (x + 1) = (12 * y + x) + 1 by omega, whP_step, if_pos (by unfold isC; rw [hch]; exact decide_eq_true hk)]; congr 2 <;> omega
        have hwG : whP (isK t) (12 * y + (x + 1)) = putF (whP (isK t) (12 * y + x)) x y := by rw [show 12 * y + (x + 1) = (12 * y + x) + 1 by omega, whP_step, if_pos (by unfold isK; rw [hch, decide_eq_true hk]; rfl)]; congr 2 <;> omega
        have hp1 := putAt (H := H ++ [⟨rowL .u16 12 (zeroF) ++ rowL .u16 12 (zeroF), 42, .fix⟩, ⟨(spl 10 t).flatMap sC, 9, .own 1⟩, ⟨rowL .u16 12 (whP (isC t 35) (12 * y + x)) ++ rowL .u16 12 (whP (isK t) (12 * y + x)), 42, .fix⟩]) (i := H.length + 2) (off := 0) (A := []) (f := whP (isC t 35) (12 * y + x)) (C := rowL .u16 12 (whP (isK t) (12 * y + x))) (x := x) (y := y) (by first | exact (Go.Sx.get_at0 _ _).trans rfl | exact (Go.Sx.get_at _ _ 1).trans rfl | exact (Go.Sx.get_at _ _ 2).trans rfl | exact (Go.Sx.get_at _ _ 3).trans rfl | exact (Go.Sx.get_at _ _ 4).trans rfl | exact (Go.Sx.get_at _ _ 5).trans rfl | exact (Go.Sx.get_at _ _ 6).trans rfl | exact (Go.Sx.get_at _ _ 7).trans rfl | exact (Go.Sx.get_at _ _ 8).trans rfl | exact (Go.Sx.get_at _ _ 9).trans rfl | exact (Go.Sx.get_at _ _ 10).trans rfl | exact (Go.Sx.get_at _ _ 11).trans rfl | exact (Go.Sx.get_at _ _ 12).trans rfl | exact (Go.Sx.get_at _ _ 13).trans rfl | exact (Go.Sx.get_at _ _ 14).trans rfl | exact (Go.Sx.get_at _ _ 15).trans rfl) rfl rfl rfl (whP_16 _ _) (by omega) (by omega)
        have hp2 := putAt (H := H ++ [⟨rowL .u16 12 (zeroF) ++ rowL .u16 12 (zeroF), 42, .fix⟩, ⟨(spl 10 t).flatMap sC, 9, .own 1⟩, ⟨rowL .u16 12 (putF (whP (isC t 35) (12 * y + x)) x y) ++ rowL .u16 12 (whP (isK t) (12 * y + x)), 42, .fix⟩]) (i := H.length + 2) (off := 12) (A := rowL .u16 12 (putF (whP (isC t 35) (12 * y + x)) x y)) (f := whP (isK t) (12 * y + x)) (C := []) (x := x) (y := y) (by rw [List.append_nil]; first | exact (Go.Sx.get_at0 _ _).trans rfl | exact (Go.Sx.get_at _ _ 1).trans rfl | exact (Go.Sx.get_at _ _ 2).trans rfl | exact (Go.Sx.get_at _ _ 3).trans rfl | exact (Go.Sx.get_at _ _ 4).trans rfl | exact (Go.Sx.get_at _ _ 5).trans rfl | exact (Go.Sx.get_at _ _ 6).trans rfl | exact (Go.Sx.get_at _ _ 7).trans rfl | exact (Go.Sx.get_at _ _ 8).trans rfl | exact (Go.Sx.get_at _ _ 9).trans rfl | exact (Go.Sx.get_at _ _ 10).trans rfl | exact (Go.Sx.get_at _ _ 11).trans rfl | exact (Go.Sx.get_at _ _ 12).trans rfl | exact (Go.Sx.get_at _ _ 13).trans rfl | exact (Go.Sx.get_at _ _ 14).trans rfl | exact (Go.Sx.get_at _ _ 15).trans rfl) (by rw [rowL_length]) rfl rfl (whP_16 _ _) (by omega) (by omega)
        simp only [set_at, List.set_cons_succ, List.set_cons_zero, List.nil_append, List.append_nil] at hp1 hp2
        rw [← hwF] at hp1 hp2
        rw [← hwG] at hp2
        repeat (first | (simp only [go_sem, Int.reduceLT, Int.reduceLE, Int.reduceEq, Int.reduceToNat, hxi, hcy, bstr_size, hbx, hcE, hk1, hfl]) | ((with_reducible refine And.intro ?_ ?_); omega) | ((with_reducible refine isSK ?_); first | (refine call_ret (hp1) (by simp only [go_sem, Int.reduceLT, Int.reduceLE, Int.reduceEq, Int.reduceToNat, hxi, hcy, bstr_size, hbx, hcE, hk1, hfl]) ?_) | (refine call_ret (hp2) (by simp only [go_sem, Int.reduceLT, Int.reduceLE, Int.reduceEq, Int.reduceToNat, hxi, hcy, bstr_size, hbx, hcE, hk1, hfl]) ?_)) | ((with_reducible refine isMC ?_); first | (refine mcall_ret (hp1) (by simp only [go_sem, Int.reduceLT, Int.reduceLE, Int.reduceEq, Int.reduceToNat, hxi, hcy, bstr_size, hbx, hcE, hk1, hfl]) (by simp only [go_sem, Int.reduceLT, Int.reduceLE, Int.reduceEq, Int.reduceToNat, hxi, hcy, bstr_size, hbx, hcE, hk1, hfl]) ?_) | (refine mcall_ret (hp2) (by simp only [go_sem, Int.reduceLT, Int.reduceLE, Int.reduceEq, Int.reduceToNat, hxi, hcy, bstr_size, hbx, hcE, hk1, hfl]) (by simp only [go_sem, Int.reduceLT, Int.reduceLE, Int.reduceEq, Int.reduceToNat, hxi, hcy, bstr_size, hbx, hcE, hk1, hfl]) ?_)) | ((with_reducible refine And.intro ?_ ?_); first | (with_reducible rfl) | assumption | (simp only [go_sem]; done)))
        refine EK_again (x + 1) ?_ ⟨by omega, fun c hc => ?_⟩ (by omega)
        · exact Weak.slots (by simp [go_sem])
        · rcases hstep c hc with h | rfl
          · exact hxx.2 c h
          · exact hokc
      have hk1 : (ch = 35) = False := eq_false k35
      by_cases k111 : ch = 111
      · have hk2 : (ch = 111) = True := eq_true k111
        have hokc : okCh ch := .inr (.inl k111)
        have hk := k111
        have hwF : whP (isC t 35) (12 * y + (x + 1)) = whP (isC t 35) (12 * y + x) := by rw [show 12 * y + (x + 1) = (12 * y + x) + 1 by omega, whP_step, if_neg (by unfold isC; rw [hch, hk]; decide)]
        have hwG : whP (isK t) (12 * y + (x + 1)) = putF (whP (isK t) (12 * y + x)) x y := by rw [show 12 * y + (x + 1) = (12 * y + x) + 1 by omega, whP_step, if_pos (by unfold isK; rw [hch, hk]; decide)]; congr 2 <;> omega
        have hp2 := putAt (H := H ++ [⟨rowL .u16 12 (zeroF) ++ rowL .u16 12 (zeroF), 42, .fix⟩, ⟨(spl 10 t).flatMap sC, 9, .own 1⟩, ⟨rowL .u16 12 (whP (isC t 35) (12 * y + x)) ++ rowL .u16 12 (whP (isK t) (12 * y + x)), 42, .fix⟩]) (i := H.length + 2) (off := 12) (A := rowL .u16 12 (whP (isC t 35) (12 * y + x))) (f := whP (isK t) (12 * y + x)) (C := []) (x := x) (y := y) (by rw [List.append_nil]; first | exact (Go.Sx.get_at0 _ _).trans rfl | exact (Go.Sx.get_at _ _ 1).trans rfl | exact (Go.Sx.get_at _ _ 2).trans rfl | exact (Go.Sx.get_at _ _ 3).trans rfl | exact (Go.Sx.get_at _ _ 4).trans rfl | exact (Go.Sx.get_at _ _ 5).trans rfl | exact (Go.Sx.get_at _ _ 6).trans rfl | exact (Go.Sx.get_at _ _ 7).trans rfl | exact (Go.Sx.get_at _ _ 8).trans rfl | exact (Go.Sx.get_at _ _ 9).trans rfl | exact (Go.Sx.get_at _ _ 10).trans rfl | exact (Go.Sx.get_at _ _ 11).trans rfl | exact (Go.Sx.get_at _ _ 12).trans rfl | exact (Go.Sx.get_at _ _ 13).trans rfl | exact (Go.Sx.get_at _ _ 14).trans rfl | exact (Go.Sx.get_at _ _ 15).trans rfl) (by rw [rowL_length]) rfl rfl (whP_16 _ _) (by omega) (by omega)
        simp only [set_at, List.set_cons_succ, List.set_cons_zero, List.nil_append, List.append_nil] at hp2
        rw [← hwG] at hp2
        repeat (first | (simp only [go_sem, Int.reduceLT, Int.reduceLE, Int.reduceEq, Int.reduceToNat, hxi, hcy, bstr_size, hbx, hcE, hk1, hk2, hfl]) | ((with_reducible refine And.intro ?_ ?_); omega) | ((with_reducible refine isSK ?_); first | (refine call_ret (hp2) (by simp only [go_sem, Int.reduceLT, Int.reduceLE, Int.reduceEq, Int.reduceToNat, hxi, hcy, bstr_size, hbx, hcE, hk1, hk2, hfl]) ?_)) | ((with_reducible refine isMC ?_); first | (refine mcall_ret (hp2) (by simp only [go_sem, Int.reduceLT, Int.reduceLE, Int.reduceEq, Int.reduceToNat, hxi, hcy, bstr_size, hbx, hcE, hk1, hk2, hfl]) (by simp only [go_sem, Int.reduceLT, Int.reduceLE, Int.reduceEq, Int.reduceToNat, hxi, hcy, bstr_size, hbx, hcE, hk1, hk2, hfl]) ?_)) | ((with_reducible refine And.intro ?_ ?_); first | (with_reducible rfl) | assumption | (simp only [go_sem]; done)))
        refine EK_again (x + 1) ?_ ⟨by omega, fun c hc => ?_⟩ (by omega)
        · rw [hwF]; exact Weak.slots (by simp [go_sem])
        · rcases hstep c hc with h | rfl
          · exact hxx.2 c h
          · exact hokc
      have hk2 : (ch = 111) = False := eq_false k111
      by_cases k46 : ch = 46
      · have hk3 : (ch = 46) = True := eq_true k46
        have hokc : okCh ch := .inr (.inr k46)
        have hk := k46
        have hwF : whP (isC t 35) (12 * y + (x + 1)) = whP (isC t 35) (12 * y + x) := by rw [show 12 * y + (x + 1) = (12 * y + x) + 1 by omega, whP_step, if_neg (by unfold isC; rw [hch, hk]; decide)]
        have hwG : whP (isK t) (12 * y + (x + 1)) = whP (isK t) (12 * y + x) := by rw [show 12 * y + (x + 1) = (12 * y + x) + 1 by omega, whP_step, if_neg (by unfold isK; rw [hch, hk]; decide)]
        repeat (first | (simp only [go_sem, Int.reduceLT, Int.reduceLE, Int.reduceEq, Int.reduceToNat, hxi, hcy, bstr_size, hbx, hcE, hk1, hk2, hk3, hfl]) | ((with_reducible refine And.intro ?_ ?_); omega) | ((with_reducible refine And.intro ?_ ?_); first | (with_reducible rfl) | assumption | (simp only [go_sem]; done)))
        refine EK_again (x + 1) ?_ ⟨by omega, fun c hc => ?_⟩ (by omega)
        · rw [hwF, hwG]; exact Weak.slots (by simp [go_sem])
        · rcases hstep c hc with h | rfl
          · exact hxx.2 c h
          · exact hokc
      have hk3 : (ch = 46) = False := eq_false k46
      have hng : ¬ goodT 12 t := fun h => by
        have := ((hgl.1 h).2.2 y (by omega)).2 ch hmem
        rcases this with h | h | h
        · exact k35 h
        · exact k111 h
        · exact k46 h
      rw [(rc_bad hng).1, (rc_bad hng).2.1, (rc_bad hng).2.2] at hq
      repeat (first | (simp only [go_sem, Int.reduceLT, Int.reduceLE, Int.reduceEq, Int.reduceToNat, hxi, hcy, hcE, hk1, hk2, hk3, bstr_size, hbx, hfl, rowL_rep, row24]) | ((with_reducible refine And.intro ?_ ?_); omega) | ((with_reducible refine And.intro ?_ ?_); first | (with_reducible rfl) | assumption | (simp only [go_sem]; done)))
      refine ret_cut hq hw _ (.inl rfl) ?_
      simp [go_sem]
    · obtain rfl : x = 12 := by omega
      have hxi : (((12 : Nat) : Int) < 12) = False := eq_false (by omega)
      repeat (first | (simp only [go_sem, Int.reduceLT, Int.reduceLE, Int.reduceEq, Int.reduceToNat, hxi]) | ((with_reducible refine And.intro ?_ ?_); omega) | ((with_reducible refine And.intro ?_ ?_); first | (with_reducible rfl) | assumption | (simp only [go_sem]; done)))
      refine EK_again (y + 1) (Weak.slots ?_) ⟨by omega, fun y' hy' => ?_⟩ (by omega)
      · simp [go_sem]
      · rcases Nat.lt_or_ge y' y with h | h
        · exact hyy.2 y' h
        · obtain rfl : y' = y := by omega
          refine ⟨h12, fun c hc => hxx.2 c ?_⟩
          rwa [List.take_of_length_le (by omega)]
  · obtain rfl : y = 12 := by omega
    have hyi : (((12 : Nat) : Int) < 12) = False := eq_false (by omega)
    have hgd : goodT 12 t := hgl.2 ⟨h13, he, hyy.2⟩
    rw [(rc_good hgd).1, (rc_good hgd).2.1, (rc_good hgd).2.2] at hq
    repeat (first | (simp only [go_sem, Int.reduceLT, Int.reduceLE, Int.reduceEq, Int.reduceToNat, hyi]) | ((with_reducible refine And.intro ?_ ?_); omega) | ((with_reducible refine And.intro ?_ ?_); first | (with_reducible rfl) | assumption | (simp only [go_sem]; done)))
    refine ret_cut hq hw _ (.inl rfl) ?_
    simp [go_sem, rcF, rcG]
end Go.Proofs.Ytheeehjgmifclaa

