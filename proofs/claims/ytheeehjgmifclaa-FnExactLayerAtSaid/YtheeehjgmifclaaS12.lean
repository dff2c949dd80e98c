/- Contracts of functions of the translated program, by the walk. -/
import Derived.Test.YtheeehjgmifclaaS10
import Derived.Test.YtheeehjgmifclaaC2
import Derived.Test.YtheeehjgmifclaaB2
set_option linter.unusedVariables false
set_option linter.unusedSimpArgs false
set_option maxRecDepth 8000
set_option maxHeartbeats 4000000
namespace Go.Proofs.Ytheeehjgmifclaa
open Go Go.Sx
theorem layerAt1 {H : List Blk} {f : Nat → Int} {i j : Nat} {a c : Int} {b1 b2 : Blk} (hf : R16 f) (h1 : At H i 0 [.v (.int .i64 a)] b1) (h2 : At H j 0 [.v (.int .i64 c)] b2) :
    Cal Try.prog 86 [.a (rowL .u16 12 (f)), .p i 0, .p j 0] H fun v H' => v = .v (.bool (hasF f a c)) ∧ H' = H := by
  have l1 := h1.len (by simp)
  have l2 := h2.len (by simp)
  have c1 : Go.Sx.cel b1.cells 0 = .v (.int .i64 a) := cel_of_seg (o := 0) (j := 0) h1.sg (by simp)
  have c2 : Go.Sx.cel b2.cells 0 = .v (.int .i64 c) := cel_of_seg (o := 0) (j := 0) h2.sg (by simp)
  simp only [List.length_cons, List.length_nil, Nat.zero_add] at l1 l2
  have g1 : ∀ L : List Blk, (H ++ L)[i]? = some b1 := fun L => get_app h1.get
  have g2 : ∀ L : List Blk, (H ++ L)[j]? = some b2 := fun L => get_app h2.get
  refine cal_fn 6 mixed Try.func86 Try.ntmps86 Try.results86 rfl rfl rfl fun hw cx hx hq => ?_
  repeat (first | (simp only [go_sem, Int.reduceLT, Int.reduceLE, Int.reduceEq, Int.reduceToNat, g1, g2, h1.live, h2.live, c1, c2, rowL_rep, l1, l2]) | ((with_reducible refine And.intro ?_ ?_); omega) | ((with_reducible refine isSK ?_); first | (refine call_ret (has hf) (by simp only [go_sem, Int.reduceLT, Int.reduceLE, Int.reduceEq, Int.reduceToNat, g1, g2, h1.live, h2.live, c1, c2, rowL_rep, l1, l2]) ?_)) | ((with_reducible refine isMC ?_); first | (refine mcall_ret (has hf) (by simp only [go_sem, Int.reduceLT, Int.reduceLE, Int.reduceEq, Int.reduceToNat, g1, g2, h1.live, h2.live, c1, c2, rowL_rep, l1, l2]) (by simp only [go_sem, Int.reduceLT, Int.reduceLE, Int.reduceEq, Int.reduceToNat, g1, g2, h1.live, h2.live, c1, c2, rowL_rep, l1, l2]) ?_)) | ((with_reducible refine And.intro ?_ ?_); first | (with_reducible rfl) | assumption | (simp only [go_sem]; done)))
  refine ret_cut hq hw _ (.inl rfl) ?_
  simp [go_sem]
def laI (l : List (Nat → Int)) (x y a c : Int) : Int := idxL (fun f => hasF f a c) (seen_ l x y l.length)
def laC (l : List (Nat → Int)) (x y a c : Int) : Int := if camC l x y = 0 then (if placeB a c = true then (if 0 ≤ laI l x y a c then 0 else 6) else 2) else camC l x y
def laV (l : List (Nat → Int)) (x y a c : Int) : Int := if laC l x y a c = 0 then laI l x y a c else 0
theorem laI_range (l : List (Nat → Int)) (x y a c : Int) : -1 ≤ laI l x y a c ∧ laI l x y a c < l.length + 1 := by
  unfold laI idxL
  split
  · rename_i j e
    have h := (List.findIdx?_eq_some_iff_getElem.1 e).1
    rw [seen_len] at h
    omega
  · omega
theorem implLayerAt {H : List Blk} {v : V} {l : List (Nat → Int)} {x y a c : Int} (h : Rd H v encL l) (hm : l.length ≤ 1000000) (hly : ∀ a ∈ l, LyW a) :
    Cal Try.prog 35 [v, .v (.int .i64 x), .v (.int .i64 y), .v (.int .i64 a), .v (.int .i64 c)] H fun u H' => u = .t [.v (.int .i64 (laV l x y a c)), .v (.int .i64 (laC l x y a c))] ∧ H' = H := by
  have hsol := h.solid
  refine cal_fn 29 mixed Try.func35 Try.ntmps35 Try.results35 rfl rfl rfl fun hw cx hx hq => ?_
  by_cases e1 : camC l x y = 0
  case neg =>
    have e2 : laC l x y a c = camC l x y := if_neg e1
    have e3 : laV l x y a c = 0 := if_neg (by rw [e2]; exact e1)
    repeat (first | (simp only [go_sem, Int.reduceLT, Int.reduceLE, Int.reduceEq, Int.reduceToNat, hsol, e1]) | ((with_reducible refine And.intro ?_ ?_); omega) | ((with_reducible refine isSK ?_); first | (refine call_ret (checkCamera h.app (by omega) hly) (by simp only [go_sem, Int.reduceLT, Int.reduceLE, Int.reduceEq, Int.reduceToNat, hsol, e1]) ?_)) | ((with_reducible refine isMC ?_); first | (refine mcall_ret (checkCamera h.app (by omega) hly) (by simp only [go_sem, Int.reduceLT, Int.reduceLE, Int.reduceEq, Int.reduceToNat, hsol, e1]) (by simp only [go_sem, Int.reduceLT, Int.reduceLE, Int.reduceEq, Int.reduceToNat, hsol, e1]) ?_)) | ((with_reducible refine And.intro ?_ ?_); first | (with_reducible rfl) | assumption | (simp only [go_sem]; done)))
    refine ret_cut hq hw _ (.inl rfl) ?_
    simp [go_sem, e2, e3]
  have hcam := camC_ok e1
  have hok := cam_all e1
  cases e4 : placeB a c
  · have e2 : laC l x y a c = 2 := by unfold laC; rw [if_pos e1, e4]; rfl
    have e3 : laV l x y a c = 0 := if_neg (by rw [e2]; omega)
    repeat (first | (simp only [go_sem, Int.reduceLT, Int.reduceLE, Int.reduceEq, Int.reduceToNat, hsol, e1, e4]) | ((with_reducible refine And.intro ?_ ?_); omega) | ((with_reducible refine isSK ?_); first | (refine call_ret (checkCamera h.app (by omega) hly) (by simp only [go_sem, Int.reduceLT, Int.reduceLE, Int.reduceEq, Int.reduceToNat, hsol, e1, e4]) ?_) | (refine call_ret (isPlace) (by simp only [go_sem, Int.reduceLT, Int.reduceLE, Int.reduceEq, Int.reduceToNat, hsol, e1, e4]) ?_)) | ((with_reducible refine isMC ?_); first | (refine mcall_ret (checkCamera h.app (by omega) hly) (by simp only [go_sem, Int.reduceLT, Int.reduceLE, Int.reduceEq, Int.reduceToNat, hsol, e1, e4]) (by simp only [go_sem, Int.reduceLT, Int.reduceLE, Int.reduceEq, Int.reduceToNat, hsol, e1, e4]) ?_) | (refine mcall_ret (isPlace) (by simp only [go_sem, Int.reduceLT, Int.reduceLE, Int.reduceEq, Int.reduceToNat, hsol, e1, e4]) (by simp only [go_sem, Int.reduceLT, Int.reduceLE, Int.reduceEq, Int.reduceToNat, hsol, e1, e4]) ?_)) | ((with_reducible refine And.intro ?_ ?_); first | (with_reducible rfl) | assumption | (simp only [go_sem]; done)))
    refine ret_cut hq hw _ (.inl rfl) ?_
    simp [go_sem, e2, e3]
  have hR : ∀ j (hj : j < (seen_ l x y l.length).length), R16 ((seen_ l x y l.length)[j]) := fun j hj => by
    have hj2 : j < l.length := by rw [seen_len] at hj; exact hj
    rw [seen_at hj2]; exact (see_12 hly hok hj2).r16
  have hlen := seen_len l x y l.length
  have hrange := laI_range l x y a c
  have hI : idxL (fun f => hasF f a c) (seen_ l x y l.length) = laI l x y a c := rfl
  by_cases e5 : 0 ≤ laI l x y a c
  · have e2 : laC l x y a c = 0 := by unfold laC; rw [if_pos e1, e4, if_pos rfl, if_pos e5]
    have e3 : laV l x y a c = laI l x y a c := if_pos e2
    have e6 : (laI l x y a c < 0) = False := eq_false (by omega)
    repeat (first | (simp only [go_sem, Int.reduceLT, Int.reduceLE, Int.reduceEq, Int.reduceToNat, hsol, e1, e4, hI, e6]) | ((with_reducible refine And.intro ?_ ?_); omega) | ((with_reducible refine isSK ?_); first | (refine call_ret (checkCamera h.app (by omega) hly) (by simp only [go_sem, Int.reduceLT, Int.reduceLE, Int.reduceEq, Int.reduceToNat, hsol, e1, e4, hI, e6]) ?_) | (refine call_ret (isPlace) (by simp only [go_sem, Int.reduceLT, Int.reduceLE, Int.reduceEq, Int.reduceToNat, hsol, e1, e4, hI, e6]) ?_) | (refine call_ret (seen h.app hm hly hok hcam.2.1 hcam.2.2) (by simp only [go_sem, Int.reduceLT, Int.reduceLE, Int.reduceEq, Int.reduceToNat, hsol, e1, e4, hI, e6]) ?_) | (refine call_ret (indexFuncR (l := seen_ l x y l.length) (p := fun f => hasF f a c) (Rd.own 2 rfl rfl hlen.symm) (by omega) (fun j hj L => layerAt1 (hR j hj) (At.app (by first | exact At.mk0 rfl | exact At.mk' 1 rfl rfl | exact At.mk' 2 rfl rfl | exact At.mk' 3 rfl rfl | exact At.mk' 4 rfl rfl | exact At.mk' 5 rfl rfl | exact At.mk' 6 rfl rfl | exact At.mk' 7 rfl rfl | exact At.mk' 8 rfl rfl | exact At.mk' 9 rfl rfl | exact At.mk' 10 rfl rfl | exact At.mk' 11 rfl rfl | exact At.mk' 12 rfl rfl | exact At.mk' 13 rfl rfl | exact At.mk' 14 rfl rfl | exact At.mk' 15 rfl rfl)) (At.app (by first | exact At.mk0 rfl | exact At.mk' 1 rfl rfl | exact At.mk' 2 rfl rfl | exact At.mk' 3 rfl rfl | exact At.mk' 4 rfl rfl | exact At.mk' 5 rfl rfl | exact At.mk' 6 rfl rfl | exact At.mk' 7 rfl rfl | exact At.mk' 8 rfl rfl | exact At.mk' 9 rfl rfl | exact At.mk' 10 rfl rfl | exact At.mk' 11 rfl rfl | exact At.mk' 12 rfl rfl | exact At.mk' 13 rfl rfl | exact At.mk' 14 rfl rfl | exact At.mk' 15 rfl rfl)))) (by simp only [go_sem, Int.reduceLT, Int.reduceLE, Int.reduceEq, Int.reduceToNat, hsol, e1, e4, hI, e6]) ?_)) | ((with_reducible refine isMC ?_); first | (refine mcall_ret (checkCamera h.app (by omega) hly) (by simp only [go_sem, Int.reduceLT, Int.reduceLE, Int.reduceEq, Int.reduceToNat, hsol, e1, e4, hI, e6]) (by simp only [go_sem, Int.reduceLT, Int.reduceLE, Int.reduceEq, Int.reduceToNat, hsol, e1, e4, hI, e6]) ?_) | (refine mcall_ret (isPlace) (by simp only [go_sem, Int.reduceLT, Int.reduceLE, Int.reduceEq, Int.reduceToNat, hsol, e1, e4, hI, e6]) (by simp only [go_sem, Int.reduceLT, Int.reduceLE, Int.reduceEq, Int.reduceToNat, hsol, e1, e4, hI, e6]) ?_) | (refine mcall_ret (seen h.app hm hly hok hcam.2.1 hcam.2.2) (by simp only [go_sem, Int.reduceLT, Int.reduceLE, Int.reduceEq, Int.reduceToNat, hsol, e1, e4, hI, e6]) (by simp only [go_sem, Int.reduceLT, Int.reduceLE, Int.reduceEq, Int.reduceToNat, hsol, e1, e4, hI, e6]) ?_) | (refine mcall_ret (indexFuncR (l := seen_ l x y l.length) (p := fun f => hasF f a c) (Rd.own 2 rfl rfl hlen.symm) (by omega) (fun j hj L => layerAt1 (hR j hj) (At.app (by first | exact At.mk0 rfl | exact At.mk' 1 rfl rfl | exact At.mk' 2 rfl rfl | exact At.mk' 3 rfl rfl | exact At.mk' 4 rfl rfl | exact At.mk' 5 rfl rfl | exact At.mk' 6 rfl rfl | exact At.mk' 7 rfl rfl | exact At.mk' 8 rfl rfl | exact At.mk' 9 rfl rfl | exact At.mk' 10 rfl rfl | exact At.mk' 11 rfl rfl | exact At.mk' 12 rfl rfl | exact At.mk' 13 rfl rfl | exact At.mk' 14 rfl rfl | exact At.mk' 15 rfl rfl)) (At.app (by first | exact At.mk0 rfl | exact At.mk' 1 rfl rfl | exact At.mk' 2 rfl rfl | exact At.mk' 3 rfl rfl | exact At.mk' 4 rfl rfl | exact At.mk' 5 rfl rfl | exact At.mk' 6 rfl rfl | exact At.mk' 7 rfl rfl | exact At.mk' 8 rfl rfl | exact At.mk' 9 rfl rfl | exact At.mk' 10 rfl rfl | exact At.mk' 11 rfl rfl | exact At.mk' 12 rfl rfl | exact At.mk' 13 rfl rfl | exact At.mk' 14 rfl rfl | exact At.mk' 15 rfl rfl)))) (by simp only [go_sem, Int.reduceLT, Int.reduceLE, Int.reduceEq, Int.reduceToNat, hsol, e1, e4, hI, e6]) (by simp only [go_sem, Int.reduceLT, Int.reduceLE, Int.reduceEq, Int.reduceToNat, hsol, e1, e4, hI, e6]) ?_)) | ((with_reducible refine And.intro ?_ ?_); first | (with_reducible rfl) | assumption | (simp only [go_sem]; done)))
    refine ret_cut hq hw _ (.inl rfl) ?_
    simp [go_sem, e2, e3]
  · have e2 : laC l x y a c = 6 := by unfold laC; rw [if_pos e1, e4, if_pos rfl, if_neg e5]
    have e3 : laV l x y a c = 0 := if_neg (by rw [e2]; omega)
    have e6 : (laI l x y a c < 0) = True := eq_true (by omega)
    repeat (first | (simp only [go_sem, Int.reduceLT, Int.reduceLE, Int.reduceEq, Int.reduceToNat, hsol, e1, e4, hI, e6]) | ((with_reducible refine And.intro ?_ ?_); omega) | ((with_reducible refine isSK ?_); first | (refine call_ret (checkCamera h.app (by omega) hly) (by simp only [go_sem, Int.reduceLT, Int.reduceLE, Int.reduceEq, Int.reduceToNat, hsol, e1, e4, hI, e6]) ?_) | (refine call_ret (isPlace) (by simp only [go_sem, Int.reduceLT, Int.reduceLE, Int.reduceEq, Int.reduceToNat, hsol, e1, e4, hI, e6]) ?_) | (refine call_ret (seen h.app hm hly hok hcam.2.1 hcam.2.2) (by simp only [go_sem, Int.reduceLT, Int.reduceLE, Int.reduceEq, Int.reduceToNat, hsol, e1, e4, hI, e6]) ?_) | (refine call_ret (indexFuncR (l := seen_ l x y l.length) (p := fun f => hasF f a c) (Rd.own 2 rfl rfl hlen.symm) (by omega) (fun j hj L => layerAt1 (hR j hj) (At.app (by first | exact At.mk0 rfl | exact At.mk' 1 rfl rfl | exact At.mk' 2 rfl rfl | exact At.mk' 3 rfl rfl | exact At.mk' 4 rfl rfl | exact At.mk' 5 rfl rfl | exact At.mk' 6 rfl rfl | exact At.mk' 7 rfl rfl | exact At.mk' 8 rfl rfl | exact At.mk' 9 rfl rfl | exact At.mk' 10 rfl rfl | exact At.mk' 11 rfl rfl | exact At.mk' 12 rfl rfl | exact At.mk' 13 rfl rfl | exact At.mk' 14 rfl rfl | exact At.mk' 15 rfl rfl)) (At.app (by first | exact At.mk0 rfl | exact At.mk' 1 rfl rfl | exact At.mk' 2 rfl rfl | exact At.mk' 3 rfl rfl | exact At.mk' 4 rfl rfl | exact At.mk' 5 rfl rfl | exact At.mk' 6 rfl rfl | exact At.mk' 7 rfl rfl | exact At.mk' 8 rfl rfl | exact At.mk' 9 rfl rfl | exact At.mk' 10 rfl rfl | exact At.mk' 11 rfl rfl | exact At.mk' 12 rfl rfl | exact At.mk' 13 rfl rfl | exact At.mk' 14 rfl rfl | exact At.mk' 15 rfl rfl)))) (by simp only [go_sem, Int.reduceLT, Int.reduceLE, Int.reduceEq, Int.reduceToNat, hsol, e1, e4, hI, e6]) ?_)) | ((with_reducible refine isMC ?_); first | (refine mcall_ret (checkCamera h.app (by omega) hly) (by simp only [go_sem, Int.reduceLT, Int.reduceLE, Int.reduceEq, Int.reduceToNat, hsol, e1, e4, hI, e6]) (by simp only [go_sem, Int.reduceLT, Int.reduceLE, Int.reduceEq, Int.reduceToNat, hsol, e1, e4, hI, e6]) ?_) | (refine mcall_ret (isPlace) (by simp only [go_sem, Int.reduceLT, Int.reduceLE, Int.reduceEq, Int.reduceToNat, hsol, e1, e4, hI, e6]) (by simp only [go_sem, Int.reduceLT, Int.reduceLE, Int.reduceEq, Int.reduceToNat, hsol, e1, e4, hI, e6]) ?_) | (refine mcall_ret (seen h.app hm hly hok hcam.2.1 hcam.2.2) (by simp only [go_sem, Int.reduceLT, Int.reduceLE, Int.reduceEq, Int.reduceToNat, hsol, e1, e4, hI, e6]) (by simp only [go_sem, Int.reduceLT, Int.reduceLE, Int.reduceEq, Int.reduceToNat, hsol, e1, e4, hI, e6]) ?_) | (refine mcall_ret (indexFuncR (l := seen_ l x y l.length) (p := fun f => hasF f a c) (Rd.own 2 rfl rfl hlen.symm) (by omega) (fun j hj L => layerAt1 (hR j hj) (At.app (by first | exact At.mk0 rfl | exact At.mk' 1 rfl rfl | exact At.mk' 2 rfl rfl | exact At.mk' 3 rfl rfl | exact At.mk' 4 rfl rfl | exact At.mk' 5 rfl rfl | exact At.mk' 6 rfl rfl | exact At.mk' 7 rfl rfl | exact At.mk' 8 rfl rfl | exact At.mk' 9 rfl rfl | exact At.mk' 10 rfl rfl | exact At.mk' 11 rfl rfl | exact At.mk' 12 rfl rfl | exact At.mk' 13 rfl rfl | exact At.mk' 14 rfl rfl | exact At.mk' 15 rfl rfl)) (At.app (by first | exact At.mk0 rfl | exact At.mk' 1 rfl rfl | exact At.mk' 2 rfl rfl | exact At.mk' 3 rfl rfl | exact At.mk' 4 rfl rfl | exact At.mk' 5 rfl rfl | exact At.mk' 6 rfl rfl | exact At.mk' 7 rfl rfl | exact At.mk' 8 rfl rfl | exact At.mk' 9 rfl rfl | exact At.mk' 10 rfl rfl | exact At.mk' 11 rfl rfl | exact At.mk' 12 rfl rfl | exact At.mk' 13 rfl rfl | exact At.mk' 14 rfl rfl | exact At.mk' 15 rfl rfl)))) (by simp only [go_sem, Int.reduceLT, Int.reduceLE, Int.reduceEq, Int.reduceToNat, hsol, e1, e4, hI, e6]) (by simp only [go_sem, Int.reduceLT, Int.reduceLE, Int.reduceEq, Int.reduceToNat, hsol, e1, e4, hI, e6]) ?_)) | ((with_reducible refine And.intro ?_ ?_); first | (with_reducible rfl) | assumption | (simp only [go_sem]; done)))
    refine ret_cut hq hw _ (.inl rfl) ?_
    simp [go_sem, e2, e3]
theorem specLayerAt {H : List Blk} {v : V} {l : List (Nat → Int)} {x y a c : Int} (h : Rd H v encL l) (hm : l.length ≤ 1000000) (hly : ∀ a ∈ l, LyW a) :
    Cal Try.prog 34 [v, .v (.int .i64 x), .v (.int .i64 y), .v (.int .i64 a), .v (.int .i64 c)] H fun u H' => u = .t [.v (.int .i64 (laV l x y a c)), .v (.int .i64 (laC l x y a c))] ∧ H' = H := by
  have hsol := h.solid
  refine cal_fn 42 mixed Try.func34 Try.ntmps34 Try.results34 rfl rfl rfl fun hw cx hx hq => ?_
  by_cases e1 : camC l x y = 0
  case neg =>
    have e2 : laC l x y a c = camC l x y := if_neg e1
    have e3 : laV l x y a c = 0 := if_neg (by rw [e2]; exact e1)
    repeat (first | (simp only [go_sem, Int.reduceLT, Int.reduceLE, Int.reduceEq, Int.reduceToNat, hsol, e1]) | ((with_reducible refine And.intro ?_ ?_); omega) | ((with_reducible refine isSK ?_); first | (refine call_ret (l05Camera h (by omega) hly) (by simp only [go_sem, Int.reduceLT, Int.reduceLE, Int.reduceEq, Int.reduceToNat, hsol, e1]) ?_)) | ((with_reducible refine isMC ?_); first | (refine mcall_ret (l05Camera h (by omega) hly) (by simp only [go_sem, Int.reduceLT, Int.reduceLE, Int.reduceEq, Int.reduceToNat, hsol, e1]) (by simp only [go_sem, Int.reduceLT, Int.reduceLE, Int.reduceEq, Int.reduceToNat, hsol, e1]) ?_)) | ((with_reducible refine And.intro ?_ ?_); first | (with_reducible rfl) | assumption | (simp only [go_sem]; done)))
    refine ret_same hq _ (.inl rfl) ?_
    simp [go_sem, e2, e3]
  have hcam := camC_ok e1
  have hok := cam_all e1
  cases e4 : placeB a c
  · have e2 : laC l x y a c = 2 := by unfold laC; rw [if_pos e1, e4]; rfl
    have e3 : laV l x y a c = 0 := if_neg (by rw [e2]; omega)
    repeat (first | (simp only [go_sem, Int.reduceLT, Int.reduceLE, Int.reduceEq, Int.reduceToNat, hsol, e1, e4]) | ((with_reducible refine And.intro ?_ ?_); omega) | ((with_reducible refine isSK ?_); first | (refine call_ret (l05Camera h (by omega) hly) (by simp only [go_sem, Int.reduceLT, Int.reduceLE, Int.reduceEq, Int.reduceToNat, hsol, e1, e4]) ?_) | (refine call_ret (l01Place) (by simp only [go_sem, Int.reduceLT, Int.reduceLE, Int.reduceEq, Int.reduceToNat, hsol, e1, e4]) ?_)) | ((with_reducible refine isMC ?_); first | (refine mcall_ret (l05Camera h (by omega) hly) (by simp only [go_sem, Int.reduceLT, Int.reduceLE, Int.reduceEq, Int.reduceToNat, hsol, e1, e4]) (by simp only [go_sem, Int.reduceLT, Int.reduceLE, Int.reduceEq, Int.reduceToNat, hsol, e1, e4]) ?_) | (refine mcall_ret (l01Place) (by simp only [go_sem, Int.reduceLT, Int.reduceLE, Int.reduceEq, Int.reduceToNat, hsol, e1, e4]) (by simp only [go_sem, Int.reduceLT, Int.reduceLE, Int.reduceEq, Int.reduceToNat, hsol, e1, e4]) ?_)) | ((with_reducible refine And.intro ?_ ?_); first | (with_reducible rfl) | assumption | (simp only [go_sem]; done)))
    refine ret_same hq _ (.inl rfl) ?_
    simp [go_sem, e2, e3]
  have hlen := seen_len l x y l.length
  have hfl := seen_flen l x y l.length
  repeat (first | (simp only [go_sem, Int.reduceLT, Int.reduceLE, Int.reduceEq, Int.reduceToNat, hsol, e1, e4]) | ((with_reducible refine And.intro ?_ ?_); omega) | ((with_reducible refine isSK ?_); first | (refine call_ret (l05Camera h (by omega) hly) (by simp only [go_sem, Int.reduceLT, Int.reduceLE, Int.reduceEq, Int.reduceToNat, hsol, e1, e4]) ?_) | (refine call_ret (l01Place) (by simp only [go_sem, Int.reduceLT, Int.reduceLE, Int.reduceEq, Int.reduceToNat, hsol, e1, e4]) ?_) | (refine call_ret (l05Seen h hm hly hok hcam.2.1 hcam.2.2) (by simp only [go_sem, Int.reduceLT, Int.reduceLE, Int.reduceEq, Int.reduceToNat, hsol, e1, e4]) ?_)) | ((with_reducible refine isMC ?_); first | (refine mcall_ret (l05Camera h (by omega) hly) (by simp only [go_sem, Int.reduceLT, Int.reduceLE, Int.reduceEq, Int.reduceToNat, hsol, e1, e4]) (by simp only [go_sem, Int.reduceLT, Int.reduceLE, Int.reduceEq, Int.reduceToNat, hsol, e1, e4]) ?_) | (refine mcall_ret (l01Place) (by simp only [go_sem, Int.reduceLT, Int.reduceLE, Int.reduceEq, Int.reduceToNat, hsol, e1, e4]) (by simp only [go_sem, Int.reduceLT, Int.reduceLE, Int.reduceEq, Int.reduceToNat, hsol, e1, e4]) ?_) | (refine mcall_ret (l05Seen h hm hly hok hcam.2.1 hcam.2.2) (by simp only [go_sem, Int.reduceLT, Int.reduceLE, Int.reduceEq, Int.reduceToNat, hsol, e1, e4]) (by simp only [go_sem, Int.reduceLT, Int.reduceLE, Int.reduceEq, Int.reduceToNat, hsol, e1, e4]) ?_)) | ((with_reducible refine And.intro ?_ ?_); first | (with_reducible rfl) | assumption | (simp only [go_sem]; done)))
  refine WK_for (fun n : Nat => ⟨[.any, .any, .any, .v (.int .i64 a), .v (.int .i64 c), .any, .any, .any, .any, .any, .any, .any, .any, .s H.length 0 l.length (.u 0), .v (.int .i64 n)] ++ junk 32, H ++ [⟨(seen_ l x y l.length).flatMap (rowL .u16 12), 40, .own 12⟩]⟩) (fun n => n ≤ l.length ∧ ∀ j (hj : j < (seen_ l x y l.length).length), j < n → hasF (seen_ l x y l.length)[j] a c = false) (fun n => l.length - n) 0 (Weak.slots ?_) ?_ fun n hn => ?_
  · simp [go_sem]
  · simp
  rcases Int.lt_or_le (n : Int) l.length with hc | hc
  · have hj : n < l.length := by omega
    have hf := see_12 (x := x) (y := y) hly hok hj
    have hatj : At (H ++ [⟨(seen_ l x y l.length).flatMap (rowL .u16 12), 40, .own 12⟩]) H.length (n * 12) (rowL .u16 12 (seeF l x y n)) ⟨(seen_ l x y l.length).flatMap (rowL .u16 12), 40, .own 12⟩ := ⟨(Go.Sx.get_at0 _ _).trans rfl, rfl, by rw [rowL_length]; exact seen_seg hj⟩
    cases e6 : hasF (seeF l x y n) a c
    · repeat (first | (simp only [go_sem, Int.reduceLT, Int.reduceLE, Int.reduceEq, Int.reduceToNat, hc, hfl, e6]) | ((with_reducible refine And.intro ?_ ?_); omega) | ((with_reducible refine isSK ?_); first | (refine call_ret (l01Has hatj hf.r16) (by simp only [go_sem, Int.reduceLT, Int.reduceLE, Int.reduceEq, Int.reduceToNat, hc, hfl, e6]) ?_)) | ((with_reducible refine isMC ?_); first | (refine mcall_ret (l01Has hatj hf.r16) (by simp only [go_sem, Int.reduceLT, Int.reduceLE, Int.reduceEq, Int.reduceToNat, hc, hfl, e6]) (by simp only [go_sem, Int.reduceLT, Int.reduceLE, Int.reduceEq, Int.reduceToNat, hc, hfl, e6]) ?_)) | ((with_reducible refine And.intro ?_ ?_); first | (with_reducible rfl) | assumption | (simp only [go_sem]; done)))
      refine EK_again (n + 1) (Weak.slots (by simp [go_sem])) ⟨by omega, fun j hj2 hj3 => ?_⟩ (by omega)
      by_cases e2 : j = n
      · subst e2; rw [seen_at (by omega)]; exact e6
      · exact hn.2 j hj2 (by omega)
    · have e7 : laI l x y a c = n := idxL_at (by omega) (by simpa only [seen_at hj] using e6) hn.2
      have e2 : laC l x y a c = 0 := by unfold laC; rw [if_pos e1, e4, if_pos rfl, if_pos (by omega)]
      have e3 : laV l x y a c = n := (if_pos e2).trans e7
      repeat (first | (simp only [go_sem, Int.reduceLT, Int.reduceLE, Int.reduceEq, Int.reduceToNat, hc, hfl, e6]) | ((with_reducible refine And.intro ?_ ?_); omega) | ((with_reducible refine isSK ?_); first | (refine call_ret (l01Has hatj hf.r16) (by simp only [go_sem, Int.reduceLT, Int.reduceLE, Int.reduceEq, Int.reduceToNat, hc, hfl, e6]) ?_)) | ((with_reducible refine isMC ?_); first | (refine mcall_ret (l01Has hatj hf.r16) (by simp only [go_sem, Int.reduceLT, Int.reduceLE, Int.reduceEq, Int.reduceToNat, hc, hfl, e6]) (by simp only [go_sem, Int.reduceLT, Int.reduceLE, Int.reduceEq, Int.reduceToNat, hc, hfl, e6]) ?_)) | ((with_reducible refine And.intro ?_ ?_); first | (with_reducible rfl) | assumption | (simp only [go_sem]; done)))
      refine ret_cut hq hw _ (.inl rfl) ?_
      simp [go_sem, e2, e3]
  · have e7 : laI l x y a c = -1 := idxL_none fun j hj => hn.2 j hj (by omega)
    have e2 : laC l x y a c = 6 := by unfold laC; rw [if_pos e1, e4, if_pos rfl, if_neg (by omega)]
    have e3 : laV l x y a c = 0 := if_neg (by rw [e2]; omega)
    repeat (first | (simp only [go_sem, Int.reduceLT, Int.reduceLE, Int.reduceEq, Int.reduceToNat, Int.not_lt.2 hc]) | ((with_reducible refine And.intro ?_ ?_); omega) | ((with_reducible refine And.intro ?_ ?_); first | (with_reducible rfl) | assumption | (simp only [go_sem]; done)))
    refine ret_cut hq hw _ (.inl rfl) ?_
    simp [go_sem, e2, e3]
end Go.Proofs.Ytheeehjgmifclaa

