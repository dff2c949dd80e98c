/- Contracts of functions of the translated program, by the walk. -/
import Derived.Test.YtpjimhkblldhaaaDoorDt1
import Derived.Test.YtpjimhkblldhaaaDoorDl3
set_option linter.unusedVariables false
set_option linter.unusedSimpArgs false
set_option maxRecDepth 8000
set_option maxHeartbeats 4000000
namespace Go.Proofs.YtpjimhkblldhaaaDoor
open Go Go.Sx
open Go.Shelf Go.Proofs
/-- The table of powers of ten, as the package variable holds it. -/
def powC : List V := Lib.pow10Tab.map fun z => .v (.int .u64 z)
/-- The first block is the table of powers. -/
structure Pow (H : List Blk) : Prop where
  pow : H[0]? = some ⟨powC, 0, .pin 1⟩
theorem Pow.app {H L : List Blk} (h : Pow H) : Pow (H ++ L) := ⟨get_app h.pow⟩
theorem powC_conc (σ : Nat → Go.Sx.Loc) : concs σ powC = Lib.pow10Tab.map fun z => Value.int .u64 z := by
  unfold powC; rw [concs_eq, List.map_map]; rfl
theorem pow_is {σ : Nat → Go.Sx.Loc} {H : List Blk} {w : World} (hw : HRel σ H w) (hp : Pow H) : Lib.TabIs Tryd.prog w "internal/strconv.uint64pow10" .u64 Lib.pow10Tab := by
  unfold Lib.TabIs
  rw [hw.pin_var (P := Tryd.prog) hp.pow (by kernel_rfl), powC_conc]
theorem fmtIntG {H : List Blk} (hp : Pow H) {i : Int} (h0 : -1000000 ≤ i) (h1 : i ≤ 1000000) : Cal Tryd.prog 47 [.v (.int .i64 i), .v (.int .i64 10)] H fun u H' => u = .v (.string ⟨(Lib.itoa i).toArray⟩) ∧ H' = H := by
  refine cal_below (by kernel_rfl) (r := .v (.string ⟨(Lib.itoa i).toArray⟩)) (by simp [go_sem]) fun σ w hw hl => ?_
  refine (Any.strconv_FormatInt_10 laysM173 i (by omega) (by omega) w (pow_is hw hp)).mono ?_
  rintro e w' ⟨rfl, k, os, rfl⟩
  refine ⟨rfl, rfl, rfl, rfl, by simp [Go.Sort.grow, World.drewN], fun j hj => ?_⟩
  show (w.heap ++ os)[j]? = w.heap[j]?
  rw [Array.getElem?_append_left hj]
/-- A number's text. -/
def decI (i : Int) : List Int := bytI ⟨(Lib.itoa i).toArray⟩
theorem bstr_decI (i : Int) : bstr (decI i) = ⟨(Lib.itoa i).toArray⟩ := bstr_bytI _
theorem decI_nat (k : Nat) : decI (k : Int) = decT k := by unfold decI decT; rw [Lib.itoa_nonneg]
theorem decI_neg {k : Nat} (h : 1 ≤ k) : decI (-(k : Int)) = 45 :: decT k := by
  unfold decI decT
  rw [Lib.itoa_neg k h]
  simp [bytI]
theorem decT_big {i : Nat} (h : 10 ≤ i) : decT i = decT (i / 10) ++ [((48 + i % 10 : Nat) : Int)] := by
  unfold decT bytI
  rw [Lib.decDigits, dif_neg (by omega)]
  simp
  omega
theorem decT_len3 {i : Nat} (h : i < 1000) : (decT i).length ≤ 3 := by
  by_cases h2 : i < 100
  · have := decT_len h2; omega
  · have := decT_len (i := i / 10) (by omega)
    rw [decT_big (by omega)]
    simp; omega
theorem decI_len {i : Int} (h0 : -100 < i) (h1 : i < 1000) : (decI i).length ≤ 3 := by
  rcases Int.lt_or_le i 0 with h | h
  · obtain ⟨k, hk⟩ : ∃ k : Nat, i = -(k : Int) := ⟨i.natAbs, by omega⟩
    subst hk
    have := decT_len (i := k) (by omega)
    rw [decI_neg (by omega)]
    simp; omega
  · obtain ⟨k, rfl⟩ := Int.eq_ofNat_of_zero_le h
    rw [decI_nat]
    exact decT_len3 (by omega)
theorem decimalG {H : List Blk} (hp : Pow H) {i : Int} (h0 : -1000000 ≤ i) (h1 : i ≤ 1000000) : Cal Tryd.prog 30 [.v (.int .i64 i)] H fun u H' => u = .v (.string (bstr (decI i))) ∧ H' = H := by
  rw [bstr_decI]
  refine cal_fn 4 mixed Tryd.func30 Tryd.ntmps30 Tryd.results30 rfl rfl rfl fun hw cx hx hq => ?_
  repeat (first | (simp only [go_sem, Int.reduceLT, Int.reduceLE, Int.reduceEq, Int.reduceToNat]) | ((with_reducible refine And.intro ?_ ?_); omega) | ((with_reducible refine isSK ?_); first | (refine call_ret (fmtIntG hp h0 h1) (by simp only [go_sem, Int.reduceLT, Int.reduceLE, Int.reduceEq, Int.reduceToNat]) ?_)) | ((with_reducible refine isMC ?_); first | (refine mcall_ret (fmtIntG hp h0 h1) (by simp only [go_sem, Int.reduceLT, Int.reduceLE, Int.reduceEq, Int.reduceToNat]) (by simp only [go_sem, Int.reduceLT, Int.reduceLE, Int.reduceEq, Int.reduceToNat]) ?_)) | ((with_reducible refine And.intro ?_ ?_); first | (with_reducible rfl) | assumption | (simp only [go_sem]; done)))
  refine ret_same hq _ (.inl rfl) ?_
  simp [go_sem]
theorem decimalSG {H : List Blk} {i : Nat} (hi : i < 1000) : Cal Tryd.prog 46 [.v (.int .i64 i)] H fun u H' => u = .v (.string (bstr (decT i))) ∧ H' = H := by
  by_cases h10 : i < 100
  · exact decimalS h10
  have hbs : bySl Tryd.prog 69 = some 5 := by kernel_rfl
  have hst : strT Tryd.prog 9 = true := by kernel_rfl
  have e1 : ((i : Int) < 10) = False := eq_false (by omega)
  have e2 : (i : Int).tmod 10 = ((i % 10 : Nat) : Int) := by rw [Int.tmod_eq_emod_of_nonneg (by omega)]; omega
  have e4 : (i : Int).tdiv 10 = ((i / 10 : Nat) : Int) := by rw [Int.tdiv_eq_ediv_of_nonneg (by omega)]; omega
  have e3 : IntKind.u8.wrap (48 + ((i % 10 : Nat) : Int)) = ((48 + i % 10 : Nat) : Int) := by
    rw [show (48 + ((i % 10 : Nat) : Int)) = ((48 + i % 10 : Nat) : Int) by omega]
    exact wrap_u8c (by omega) (by omega)
  have hlen := decT_len (i := i / 10) (by omega)
  rw [decT_big (by omega)]
  refine cal_fn 20 mixed Tryd.func46 Tryd.ntmps46 Tryd.results46 rfl rfl rfl fun hw cx hx hq => ?_
  repeat (first | (simp only [go_sem, Int.reduceLT, Int.reduceLE, Int.reduceEq, Int.reduceToNat, hbs, hst, Tryd.underlying69, e1, e2, e3, e4, u8s_one, bstr_app, bstr_size, List.length_singleton]) | ((with_reducible refine And.intro ?_ ?_); omega) | ((with_reducible refine isSK ?_); first | (refine call_ret (decimalS (i := i / 10) (by omega)) (by simp only [go_sem, Int.reduceLT, Int.reduceLE, Int.reduceEq, Int.reduceToNat, hbs, hst, Tryd.underlying69, e1, e2, e3, e4, u8s_one, bstr_app, bstr_size, List.length_singleton]) ?_)) | ((with_reducible refine isMC ?_); first | (refine mcall_ret (decimalS (i := i / 10) (by omega)) (by simp only [go_sem, Int.reduceLT, Int.reduceLE, Int.reduceEq, Int.reduceToNat, hbs, hst, Tryd.underlying69, e1, e2, e3, e4, u8s_one, bstr_app, bstr_size, List.length_singleton]) (by simp only [go_sem, Int.reduceLT, Int.reduceLE, Int.reduceEq, Int.reduceToNat, hbs, hst, Tryd.underlying69, e1, e2, e3, e4, u8s_one, bstr_app, bstr_size, List.length_singleton]) ?_)) | ((with_reducible refine isWKr (id := 3) ?_); refine WK_drawAt 3 [[],[0],[0,1],[],[3],[3,4],[3,4,5],[3,4,5,6],[3,4,5,6,7],[0,1,2,3,4,5,6,7,8],[0,1,2,3,4,5,6,7,8,9]] (by kernel_rfl) ?_) | ((with_reducible refine And.intro ?_ ?_); first | (with_reducible rfl) | assumption | (simp only [go_sem]; done)))
  refine ret_cut hq hw _ (.inl rfl) ?_
  simp [go_sem]
end Go.Proofs.YtpjimhkblldhaaaDoor

