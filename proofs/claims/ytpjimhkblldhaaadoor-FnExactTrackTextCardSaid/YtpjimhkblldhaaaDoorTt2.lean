/- Contracts of functions of the translated program, by the walk. -/
import Derived.Test.YtpjimhkblldhaaaDoorTt1
set_option linter.unusedVariables false
set_option linter.unusedSimpArgs false
set_option maxRecDepth 8000
set_option maxHeartbeats 4000000
namespace Go.Proofs.YtpjimhkblldhaaaDoor
open Go Go.Sx
theorem implTrackText {H : List Blk} {v : V} {l : List (Nat → Int)} (hp : Pow H) (h : Rd H v encK l) (hK : ∀ a ∈ l, KyW a) (hl : l.length ≤ 1000000) :
    Cal Tryd.prog 14 [v] H fun u H' => u = .v (.string (bstr (ttT l))) ∧ H' = H := by
  have hsol := h.solid
  have hL := h.lenV (P := Tryd.prog) slTy31
  cases e : tkOk l
  · have e2 : ttT l = [] := if_neg (by rw [e]; decide)
    refine cal_fn 37 mixed Tryd.func14 Tryd.ntmps14 Tryd.results14 rfl rfl rfl fun hw cx hx hq => ?_
    repeat (first | (simp only [go_sem, Int.reduceLT, Int.reduceLE, Int.reduceEq, Int.reduceToNat, hsol, hL, e, bs0]) | ((with_reducible refine And.intro ?_ ?_); omega) | ((with_reducible refine isSK ?_); first | (refine call_ret (validTrack h hK hl) (by simp only [go_sem, Int.reduceLT, Int.reduceLE, Int.reduceEq, Int.reduceToNat, hsol, hL, e, bs0]) ?_)) | ((with_reducible refine isMC ?_); first | (refine mcall_ret (validTrack h hK hl) (by simp only [go_sem, Int.reduceLT, Int.reduceLE, Int.reduceEq, Int.reduceToNat, hsol, hL, e, bs0]) (by simp only [go_sem, Int.reduceLT, Int.reduceLE, Int.reduceEq, Int.reduceToNat, hsol, hL, e, bs0]) ?_)) | ((with_reducible refine isWKr (id := 7) ?_); refine WK_drawUp 7 [[],[],[1],[1,2],[1,2,3],[1,2,3,4],[],[6],[6,7],[1,2,3,4,6,7,8],[1,2,3,4,5,6,7,8,9],[1,2,3,4,5,6,7,8,9,10],[],[12],[12,13],[1,2,3,4,6,7,8,9,12,13,14],[1,2,3,4,5,6,7,8,9,10,11,12,13,14,15],[1,2,3,4,5,6,7,8,9,10,11,12,13,14,15,16],[0,1,2,3,4,5,6,7,8,9,10,11,12,13,14,15,16,17],[0,1,2,3,4,5,6,7,8,9,10,11,12,13,14,15,16,17,18]] 18 (by kernel_rfl) ?_; dsimp only [List.take, List.drop]) | ((with_reducible refine And.intro ?_ ?_); first | (with_reducible rfl) | assumption | (simp only [go_sem]; done)))
    refine ret_same hq _ (.inl rfl) ?_
    simp [go_sem, e2]
  have e2 : ttT l = trkT l := if_pos e
  have hv := e
  have hlen := tkOk_len hv
  refine cal_fn 37 mixed Tryd.func14 Tryd.ntmps14 Tryd.results14 rfl rfl rfl fun hw cx hx hq => ?_
  repeat (first | (simp only [go_sem, Int.reduceLT, Int.reduceLE, Int.reduceEq, Int.reduceToNat, hsol, hL, e, bs0]) | ((with_reducible refine And.intro ?_ ?_); omega) | ((with_reducible refine isSK ?_); first | (refine call_ret (validTrack h hK hl) (by simp only [go_sem, Int.reduceLT, Int.reduceLE, Int.reduceEq, Int.reduceToNat, hsol, hL, e, bs0]) ?_)) | ((with_reducible refine isMC ?_); first | (refine mcall_ret (validTrack h hK hl) (by simp only [go_sem, Int.reduceLT, Int.reduceLE, Int.reduceEq, Int.reduceToNat, hsol, hL, e, bs0]) (by simp only [go_sem, Int.reduceLT, Int.reduceLE, Int.reduceEq, Int.reduceToNat, hsol, hL, e, bs0]) ?_)) | ((with_reducible refine isWKr (id := 7) ?_); refine WK_drawUp 7 [[],[],[1],[1,2],[1,2,3],[1,2,3,4],[],[6],[6,7],[1,2,3,4,6,7,8],[1,2,3,4,5,6,7,8,9],[1,2,3,4,5,6,7,8,9,10],[],[12],[12,13],[1,2,3,4,6,7,8,9,12,13,14],[1,2,3,4,5,6,7,8,9,10,11,12,13,14,15],[1,2,3,4,5,6,7,8,9,10,11,12,13,14,15,16],[0,1,2,3,4,5,6,7,8,9,10,11,12,13,14,15,16,17],[0,1,2,3,4,5,6,7,8,9,10,11,12,13,14,15,16,17,18]] 18 (by kernel_rfl) ?_; dsimp only [List.take, List.drop]) | ((with_reducible refine And.intro ?_ ?_); first | (with_reducible rfl) | assumption | (simp only [go_sem]; done)))
  refine WK_for (fun n : Nat => ⟨[.any, .any, .any, .s H.length 0 n (.u 0), .any, .any, .any, .any, .any, .any, v, .v (.int .i64 l.length), .v (.int .i64 n)] ++ junk 25, H ++ [⟨(trkL (l.take n)).flatMap sC, 9, .own 1⟩]⟩) (fun n => n ≤ l.length) (fun n => l.length - n) 0 (Weak.slots ?_) (Nat.zero_le _) fun n hn => ?_
  · simp [go_sem, trkL_nil]
  have hfl : ((trkL (l.take n)).flatMap sC).length = n := by rw [flat_sC.flen, Nat.mul_one, trkL_len, List.length_take]; omega
  have hn1 : norefH H.length H := norefH_wf hw (Nat.le_refl _)
  have hn2 : norefs H.length ((trkL (l.take n)).flatMap sC) = true := flat_sC.norefs _ _
  have hd1 : (H.length + 1 = H.length) = False := eq_false (by omega)
  have hd3 : (H.length + 2 = H.length) = False := eq_false (by omega)
  rcases Int.lt_or_le (n : Int) l.length with hc | hc
  · skip
    have hj : n < l.length := by omega
    obtain ⟨i, off, c, b, rfl, hat, hfit⟩ := h.full (by omega)
    have hlt := hat.lt
    have g2 : ∀ L : List Blk, (H ++ L)[i]? = some b := fun L => get_app hat.get
    have pa := hat.elem encK 3 encK_len hj
    have pe : At H i (off + n * 3) (rowK kK 3 l[n]) b := hat.el encK_len hj
    have pf := hat.fits encK 3 encK_len hj (by omega)
    have c0 : cel b.cells (off + n * 3) = .v (.int .i16 (l[n] 0)) := pe.celK (j := 0) (by omega)
    have c1 : cel b.cells (off + n * 3 + 1) = .v (.int .i8 (l[n] 1)) := pe.celK (j := 1) (by omega)
    have c2 : cel b.cells (off + n * 3 + 2) = .v (.int .i8 (l[n] 2)) := pe.celK (j := 2) (by omega)
    simp only [Nat.add_assoc] at c1 c2
    have pk := okK_iff.1 (tkOk_at hv hj).1
    have hKT := keyT_len (tkOk_at hv hj).1
    have d0 := decI_len (i := l[n] 0) (by omega) (by omega)
    have d1 := decI_len (i := l[n] 1) (by omega) (by omega)
    have d2 := decI_len (i := l[n] 2) (by omega) (by omega)
    have hd2 : (i = H.length) = False := eq_false (by omega)
    have hkT : keyT l[n] = decI (l[n] 0) ++ 58 :: (decI (l[n] 1) ++ 44 :: decI (l[n] 2)) := by simp [keyT]
    repeat (first | (simp only [go_sem, Int.reduceLT, Int.reduceLE, Int.reduceEq, Int.reduceToNat, hc, hat.get, g2, hat.live, hlt, pa, pf, celK0, celK1, celK2, encK_len, hfl, hn1, hn2, hd1, hd2, hd3, hx, bs44, bs58, bstr_app, bstr_size, List.length_append, List.length_singleton, List.length_nil]) | ((with_reducible refine And.intro ?_ ?_); omega) | ((with_reducible refine isSK ?_); first | (refine call_ret (decimalG (by first | exact hp | exact hp.app) (by omega) (by omega)) (by simp only [go_sem, Int.reduceLT, Int.reduceLE, Int.reduceEq, Int.reduceToNat, hc, hat.get, g2, hat.live, hlt, pa, pf, celK0, celK1, celK2, encK_len, hfl, hn1, hn2, hd1, hd2, hd3, hx, bs44, bs58, bstr_app, bstr_size, List.length_append, List.length_singleton, List.length_nil]) ?_)) | ((with_reducible refine isMC ?_); first | (refine mcall_ret (decimalG (by first | exact hp | exact hp.app) (by omega) (by omega)) (by simp only [go_sem, Int.reduceLT, Int.reduceLE, Int.reduceEq, Int.reduceToNat, hc, hat.get, g2, hat.live, hlt, pa, pf, celK0, celK1, celK2, encK_len, hfl, hn1, hn2, hd1, hd2, hd3, hx, bs44, bs58, bstr_app, bstr_size, List.length_append, List.length_singleton, List.length_nil]) (by simp only [go_sem, Int.reduceLT, Int.reduceLE, Int.reduceEq, Int.reduceToNat, hc, hat.get, g2, hat.live, hlt, pa, pf, celK0, celK1, celK2, encK_len, hfl, hn1, hn2, hd1, hd2, hd3, hx, bs44, bs58, bstr_app, bstr_size, List.length_append, List.length_singleton, List.length_nil]) ?_)) | ((with_reducible refine isWKr (id := 7) ?_); refine WK_drawUp 7 [[],[],[1],[1,2],[1,2,3],[1,2,3,4],[],[6],[6,7],[1,2,3,4,6,7,8],[1,2,3,4,5,6,7,8,9],[1,2,3,4,5,6,7,8,9,10],[],[12],[12,13],[1,2,3,4,6,7,8,9,12,13,14],[1,2,3,4,5,6,7,8,9,10,11,12,13,14,15],[1,2,3,4,5,6,7,8,9,10,11,12,13,14,15,16],[0,1,2,3,4,5,6,7,8,9,10,11,12,13,14,15,16,17],[0,1,2,3,4,5,6,7,8,9,10,11,12,13,14,15,16,17,18]] 18 (by kernel_rfl) ?_; dsimp only [List.take, List.drop]) | ((with_reducible refine And.intro ?_ ?_); first | (with_reducible rfl) | assumption | (simp only [go_sem]; done)))
    refine EK_again (n + 1) ?_ (by omega) (by omega)
    rw [trkL_succ hj, List.flatMap_append, List.flatMap_singleton, sC, hkT]
    exact Weak.keepN rfl (by simp [go_sem] <;> omega) (by simp [hx]) (by simp [go_sem, hlt, flat_sC.lts, sC] <;> omega) (hw.app (by simp [go_sem, hlt, flat_sC.lts, sC] <;> omega))
  · have : n = l.length := by omega
    subst this
    rw [List.take_length] at hfl hn2 ⊢
    have hjl := trkT_len (l := l) fun a ha => by
        obtain ⟨j, hj2, rfl⟩ := List.mem_iff_getElem.1 ha
        exact (tkOk_at hv hj2).1
    have hjn := join_len [32] (trkL l)
    have hjl2 : (jnT [32] (trkL l)).length ≤ 12 * l.length := hjl
    repeat (first | (simp only [go_sem, Int.reduceLT, Int.reduceLE, Int.reduceEq, Int.reduceToNat, Int.not_lt.2 hc, hfl, bs32]) | ((with_reducible refine And.intro ?_ ?_); omega) | ((with_reducible refine isSK ?_); first | (refine call_ret (joinC (xs := trkL l) (sep := [32]) (by first | exact (Go.Sx.get_at0 _ _).trans rfl | exact (Go.Sx.get_at _ _ 1).trans rfl | exact (Go.Sx.get_at _ _ 2).trans rfl | exact (Go.Sx.get_at _ _ 3).trans rfl | exact (Go.Sx.get_at _ _ 4).trans rfl | exact (Go.Sx.get_at _ _ 5).trans rfl | exact (Go.Sx.get_at _ _ 6).trans rfl | exact (Go.Sx.get_at _ _ 7).trans rfl | exact (Go.Sx.get_at _ _ 8).trans rfl | exact (Go.Sx.get_at _ _ 9).trans rfl | exact (Go.Sx.get_at _ _ 10).trans rfl | exact (Go.Sx.get_at _ _ 11).trans rfl | exact (Go.Sx.get_at _ _ 12).trans rfl | exact (Go.Sx.get_at _ _ 13).trans rfl | exact (Go.Sx.get_at _ _ 14).trans rfl | exact (Go.Sx.get_at _ _ 15).trans rfl) (by rw [trkL_len]) (.inr rfl) (by omega) (by rw [trkL_len]; omega)) (by simp only [go_sem, Int.reduceLT, Int.reduceLE, Int.reduceEq, Int.reduceToNat, Int.not_lt.2 hc, hfl, bs32]) ?_)) | ((with_reducible refine isMC ?_); first | (refine mcall_ret (joinC (xs := trkL l) (sep := [32]) (by first | exact (Go.Sx.get_at0 _ _).trans rfl | exact (Go.Sx.get_at _ _ 1).trans rfl | exact (Go.Sx.get_at _ _ 2).trans rfl | exact (Go.Sx.get_at _ _ 3).trans rfl | exact (Go.Sx.get_at _ _ 4).trans rfl | exact (Go.Sx.get_at _ _ 5).trans rfl | exact (Go.Sx.get_at _ _ 6).trans rfl | exact (Go.Sx.get_at _ _ 7).trans rfl | exact (Go.Sx.get_at _ _ 8).trans rfl | exact (Go.Sx.get_at _ _ 9).trans rfl | exact (Go.Sx.get_at _ _ 10).trans rfl | exact (Go.Sx.get_at _ _ 11).trans rfl | exact (Go.Sx.get_at _ _ 12).trans rfl | exact (Go.Sx.get_at _ _ 13).trans rfl | exact (Go.Sx.get_at _ _ 14).trans rfl | exact (Go.Sx.get_at _ _ 15).trans rfl) (by rw [trkL_len]) (.inr rfl) (by omega) (by rw [trkL_len]; omega)) (by simp only [go_sem, Int.reduceLT, Int.reduceLE, Int.reduceEq, Int.reduceToNat, Int.not_lt.2 hc, hfl, bs32]) (by simp only [go_sem, Int.reduceLT, Int.reduceLE, Int.reduceEq, Int.reduceToNat, Int.not_lt.2 hc, hfl, bs32]) ?_)) | ((with_reducible refine isWKr (id := 7) ?_); refine WK_drawUp 7 [[],[],[1],[1,2],[1,2,3],[1,2,3,4],[],[6],[6,7],[1,2,3,4,6,7,8],[1,2,3,4,5,6,7,8,9],[1,2,3,4,5,6,7,8,9,10],[],[12],[12,13],[1,2,3,4,6,7,8,9,12,13,14],[1,2,3,4,5,6,7,8,9,10,11,12,13,14,15],[1,2,3,4,5,6,7,8,9,10,11,12,13,14,15,16],[0,1,2,3,4,5,6,7,8,9,10,11,12,13,14,15,16,17],[0,1,2,3,4,5,6,7,8,9,10,11,12,13,14,15,16,17,18]] 18 (by kernel_rfl) ?_; dsimp only [List.take, List.drop]) | ((with_reducible refine And.intro ?_ ?_); first | (with_reducible rfl) | assumption | (simp only [go_sem]; done)))
    refine ret_cut hq hw _ (.inl rfl) ?_
    simp [go_sem, e2, joinT_eq, trkT]
end Go.Proofs.YtpjimhkblldhaaaDoor

