/- Contracts of functions of the translated program, by the walk. -/
import Derived.Test.YtpjimhkblldhaaaDoorRt1
import Derived.Test.YtpjimhkblldhaaaDoorDl6
import Derived.Test.YtpjimhkblldhaaaDoorRd4
set_option linter.unusedVariables false
set_option linter.unusedSimpArgs false
set_option maxRecDepth 8000
set_option maxHeartbeats 4000000
namespace Go.Proofs.YtpjimhkblldhaaaDoor
open Go Go.Sx
open Go.Proofs Go.Shelf
theorem bc58 : (ByteArray.mk #[58]) = bstr [58] := rfl
theorem bc44 : (ByteArray.mk #[44]) = bstr [44] := rfl
theorem cutC {H : List Blk} (hp : PinR H) {t : List Int} {c : Int} (hc : 0 ≤ c ∧ c ≤ 255) (h8 : B8 t) (hl : t.length ≤ 1000000) :
    Cal Tryd.prog 43 [.v (.string (bstr t)), .v (.string (bstr [c]))] H fun u H' => u = .t [.v (.string (bstr (cutL c t).1)), .v (.string (bstr (cutL c t).2.1)), .v (.bool (cutL c t).2.2)] ∧ H' = H := by
  refine cal_below (by kernel_rfl) (r := .t [.v (.string (bstr (cutL c t).1)), .v (.string (bstr (cutL c t).2.1)), .v (.bool (cutL c t).2.2)]) (by simp [go_sem]) fun σ w hw hlt => ?_
  obtain ⟨m, hm⟩ := hp.mx
  have hcl := cut_lib hc h8
  rw [← bstr_u8', ← bstr_u8'] at hcl
  refine (Any.strings_Cut lays145 (bstr t) (bstr [c]) m w (by rw [bstr_size]; omega) (hw.pin_cell hm rfl)).mono ?_
  rintro e w' ⟨rfl, n, rfl⟩
  rw [hcl]
  exact ⟨rfl, ⟨rfl, rfl, rfl, Nat.le_refl _, fun _ _ => rfl⟩⟩
theorem l01Signed {H : List Blk} {t : List Int} (h8 : B8 t) (hl : t.length ≤ 1000000) :
    Cal Tryd.prog 41 [.v (.string (bstr t))] H fun u H' => u = .t [.v (.int .i64 (sgV t)), .v (.bool (sgO t))] ∧ H' = H := by
  have hbs := bstr_size t
  cases t with
  | nil =>
    have e1 : ((bstr []).toList = (bstr []).toList) = True := eq_true rfl
    have e : numN [] = none := rfl
    refine cal_fn 29 mixed Tryd.func41 Tryd.ntmps41 Tryd.results41 rfl rfl rfl fun hw cx hx hq => ?_
    repeat (first | (simp only [go_sem, Int.reduceLT, Int.reduceLE, Int.reduceEq, Int.reduceToNat, bs0, e1, e, Option.isSome_none, Option.getD_none]) | ((with_reducible refine And.intro ?_ ?_); omega) | ((with_reducible refine isSK ?_); first | (refine call_ret (l01Number h8 hl) (by simp only [go_sem, Int.reduceLT, Int.reduceLE, Int.reduceEq, Int.reduceToNat, bs0, e1, e, Option.isSome_none, Option.getD_none]) ?_)) | ((with_reducible refine isMC ?_); first | (refine mcall_ret (l01Number h8 hl) (by simp only [go_sem, Int.reduceLT, Int.reduceLE, Int.reduceEq, Int.reduceToNat, bs0, e1, e, Option.isSome_none, Option.getD_none]) (by simp only [go_sem, Int.reduceLT, Int.reduceLE, Int.reduceEq, Int.reduceToNat, bs0, e1, e, Option.isSome_none, Option.getD_none]) ?_)) | ((with_reducible refine And.intro ?_ ?_); first | (with_reducible rfl) | assumption | (simp only [go_sem]; done)))
    refine ret_same hq _ (.inl rfl) ?_
    simp [go_sem, sgO, sgV]
  | cons c r =>
    have hn0 : ((bstr (c :: r)).toList = (bstr []).toList) = False := eq_false (by rw [bstr_toL, bstr_toL]; intro h; cases h)
    have hat0 := str_at (c :: r) h8 (i := 0) (by simp)
    rw [List.getElem_cons_zero] at hat0
    have zl : ((0 : Int) < ((c :: r).length : Int)) = True := eq_true (by simp)
    have hpos : 0 < (c :: r).length := by simp
    by_cases h45 : c = 45
    · subst h45
      have hr8 : B8 r := fun x hx => h8 x (List.mem_cons_of_mem _ hx)
      have hrl : r.length ≤ 1000000 := by simp at hl; omega
      have ex : (bstr (45 :: r)).extract 1 (r.length + 1) = bstr r := by rw [bstr_extract]; simp
      have hg := numN_get r
      rw [sgO_45, sgV_45]
      cases e : numN r with
      | none =>
        refine cal_fn 29 mixed Tryd.func41 Tryd.ntmps41 Tryd.results41 rfl rfl rfl fun hw cx hx hq => ?_
        repeat (first | (simp only [go_sem, Int.reduceLT, Int.reduceLE, Int.reduceEq, Int.reduceToNat, bs0, hn0, hbs, hat0, zl, hpos, ex, e, Option.isSome_none, Option.getD_none]) | ((with_reducible refine And.intro ?_ ?_); omega) | ((with_reducible refine isSK ?_); first | (refine call_ret (l01Number hr8 hrl) (by simp only [go_sem, Int.reduceLT, Int.reduceLE, Int.reduceEq, Int.reduceToNat, bs0, hn0, hbs, hat0, zl, hpos, ex, e, Option.isSome_none, Option.getD_none]) ?_)) | ((with_reducible refine isMC ?_); first | (refine mcall_ret (l01Number hr8 hrl) (by simp only [go_sem, Int.reduceLT, Int.reduceLE, Int.reduceEq, Int.reduceToNat, bs0, hn0, hbs, hat0, zl, hpos, ex, e, Option.isSome_none, Option.getD_none]) (by simp only [go_sem, Int.reduceLT, Int.reduceLE, Int.reduceEq, Int.reduceToNat, bs0, hn0, hbs, hat0, zl, hpos, ex, e, Option.isSome_none, Option.getD_none]) ?_)) | ((with_reducible refine And.intro ?_ ?_); first | (with_reducible rfl) | assumption | (simp only [go_sem]; done)))
        refine ret_same hq _ (.inl rfl) ?_
        simp [go_sem]
      | some k =>
        rw [e, Option.getD_some] at hg
        by_cases hk : 0 < k
        · have e3 : ((0 : Int) < (k : Int)) = True := eq_true (by omega)
          refine cal_fn 29 mixed Tryd.func41 Tryd.ntmps41 Tryd.results41 rfl rfl rfl fun hw cx hx hq => ?_
          repeat (first | (simp only [go_sem, Int.reduceLT, Int.reduceLE, Int.reduceEq, Int.reduceToNat, bs0, hn0, hbs, hat0, zl, hpos, ex, e, e3, Option.isSome_some, Option.getD_some]) | ((with_reducible refine And.intro ?_ ?_); omega) | ((with_reducible refine isSK ?_); first | (refine call_ret (l01Number hr8 hrl) (by simp only [go_sem, Int.reduceLT, Int.reduceLE, Int.reduceEq, Int.reduceToNat, bs0, hn0, hbs, hat0, zl, hpos, ex, e, e3, Option.isSome_some, Option.getD_some]) ?_)) | ((with_reducible refine isMC ?_); first | (refine mcall_ret (l01Number hr8 hrl) (by simp only [go_sem, Int.reduceLT, Int.reduceLE, Int.reduceEq, Int.reduceToNat, bs0, hn0, hbs, hat0, zl, hpos, ex, e, e3, Option.isSome_some, Option.getD_some]) (by simp only [go_sem, Int.reduceLT, Int.reduceLE, Int.reduceEq, Int.reduceToNat, bs0, hn0, hbs, hat0, zl, hpos, ex, e, e3, Option.isSome_some, Option.getD_some]) ?_)) | ((with_reducible refine And.intro ?_ ?_); first | (with_reducible rfl) | assumption | (simp only [go_sem]; done)))
          refine ret_same hq _ (.inl rfl) ?_
          simp [go_sem, hk]
        · have e3 : ((0 : Int) < (k : Int)) = False := eq_false (by omega)
          refine cal_fn 29 mixed Tryd.func41 Tryd.ntmps41 Tryd.results41 rfl rfl rfl fun hw cx hx hq => ?_
          repeat (first | (simp only [go_sem, Int.reduceLT, Int.reduceLE, Int.reduceEq, Int.reduceToNat, bs0, hn0, hbs, hat0, zl, hpos, ex, e, e3, Option.isSome_some, Option.getD_some]) | ((with_reducible refine And.intro ?_ ?_); omega) | ((with_reducible refine isSK ?_); first | (refine call_ret (l01Number hr8 hrl) (by simp only [go_sem, Int.reduceLT, Int.reduceLE, Int.reduceEq, Int.reduceToNat, bs0, hn0, hbs, hat0, zl, hpos, ex, e, e3, Option.isSome_some, Option.getD_some]) ?_)) | ((with_reducible refine isMC ?_); first | (refine mcall_ret (l01Number hr8 hrl) (by simp only [go_sem, Int.reduceLT, Int.reduceLE, Int.reduceEq, Int.reduceToNat, bs0, hn0, hbs, hat0, zl, hpos, ex, e, e3, Option.isSome_some, Option.getD_some]) (by simp only [go_sem, Int.reduceLT, Int.reduceLE, Int.reduceEq, Int.reduceToNat, bs0, hn0, hbs, hat0, zl, hpos, ex, e, e3, Option.isSome_some, Option.getD_some]) ?_)) | ((with_reducible refine And.intro ?_ ?_); first | (with_reducible rfl) | assumption | (simp only [go_sem]; done)))
          refine ret_same hq _ (.inl rfl) ?_
          simp [go_sem, hk]
    · have e1 : (c = 45) = False := eq_false h45
      rw [sgO_ne _ h45, sgV_ne _ h45]
      refine cal_fn 29 mixed Tryd.func41 Tryd.ntmps41 Tryd.results41 rfl rfl rfl fun hw cx hx hq => ?_
      repeat (first | (simp only [go_sem, Int.reduceLT, Int.reduceLE, Int.reduceEq, Int.reduceToNat, bs0, hn0, hbs, hat0, zl, hpos, e1]) | ((with_reducible refine And.intro ?_ ?_); omega) | ((with_reducible refine isSK ?_); first | (refine call_ret (l01Number h8 hl) (by simp only [go_sem, Int.reduceLT, Int.reduceLE, Int.reduceEq, Int.reduceToNat, bs0, hn0, hbs, hat0, zl, hpos, e1]) ?_)) | ((with_reducible refine isMC ?_); first | (refine mcall_ret (l01Number h8 hl) (by simp only [go_sem, Int.reduceLT, Int.reduceLE, Int.reduceEq, Int.reduceToNat, bs0, hn0, hbs, hat0, zl, hpos, e1]) (by simp only [go_sem, Int.reduceLT, Int.reduceLE, Int.reduceEq, Int.reduceToNat, bs0, hn0, hbs, hat0, zl, hpos, e1]) ?_)) | ((with_reducible refine And.intro ?_ ?_); first | (with_reducible rfl) | assumption | (simp only [go_sem]; done)))
      refine ret_same hq _ (.inl rfl) ?_
      simp [go_sem]
end Go.Proofs.YtpjimhkblldhaaaDoor

