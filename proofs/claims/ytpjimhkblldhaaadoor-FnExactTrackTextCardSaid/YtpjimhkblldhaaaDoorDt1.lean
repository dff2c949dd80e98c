/- Contracts of functions of the translated program, by the walk. -/
import Derived.Test.YtpjimhkblldhaaaDoorT1
import Derived.Shelf.Strconv.Itoa4
import Derived.Test.YtpjimhkblldhaaaDoorProg
import Derived.KernelRfl
import Derived.Test.YtpjimhkblldhaaaDoorDl2
import Derived.Test.YtpjimhkblldhaaaDoorLD
import Derived.Test.YtpjimhkblldhaaaDoorLA
set_option linter.unusedVariables false
set_option linter.unusedSimpArgs false
set_option maxRecDepth 8000
set_option maxHeartbeats 4000000
namespace Go.Proofs.YtpjimhkblldhaaaDoor
open Go Go.Sx
open Go.Shelf Go.Proofs
theorem extra156 : Builder.Extra Tryd.prog lays156_ren where
  sizeBuilder := by kernel_rfl
  liesBuilder := by kernel_rfl
  t5 := Tryd.underlying5
  a5 := Tryd.isAgg5
  z5 := Tryd.sizeOf5
  v5 := Tryd.zeroValue5
  infoByte := by kernel_rfl
  cellsByte := by kernel_rfl
  sizeByte := by kernel_rfl
  neB5 := by decide
/-- The texts, joined. -/
def joinT (xs : List (List Int)) (sep : List Int) : ByteArray := ⟨(Lib.join ((xs.map bstr).map (·.data.toList)) (bstr sep).data.toList).toArray⟩
theorem joinC {H : List Blk} {i n : Nat} {c : Cap} {xs : List (List Int)} {sep : List Int} (hr : H[i]? = some ⟨xs.flatMap sC, 9, .own 1⟩) (hn : n = xs.length) (hc : c = .w ∨ c = .u 0) (hlen : (Lib.join ((xs.map bstr).map (·.data.toList)) (bstr sep).data.toList).length ≤ 100000) (hN : xs.length ≤ 1000) :
    Cal Tryd.prog 31 [.s i 0 n c, .v (.string (bstr sep))] H fun u H' => u = .v (.string (joinT xs sep)) ∧ H' = H := by
  subst hn
  refine cal_below (by kernel_rfl) (r := .v (.string (joinT xs sep))) (by simp [go_sem]) fun σ w hw hl => ?_
  have hh := hw.holds i _ hr
  have hcell := fun j u => (hh.cell (j := j) (u := u) rfl)
  obtain ⟨r0, cur, m, hrg, hm, hcap, hsz, hmax, htake⟩ := (hh : _ ∧ _)
  rw [flat_sC.flen] at hm
  have hml : m = xs.length := by simp only [Nat.mul_one] at hm; exact hm.symm
  subst hml
  have hcv : c.val (σ i).cap = (σ i).cap := by rcases hc with rfl | rfl <;> rfl
  have ec : (concs σ [V.s i 0 xs.length c, .v (.string (bstr sep))]).toArray = #[.slice (some ⟨(σ i).blk, 0, none⟩) (xs.map bstr).length (σ i).cap, .string (bstr sep)] := by simp [concs, conc, r0, hcv]
  rw [ec]
  refine (Any.strings_Join lays156 extra156 (σ i).blk 0 (σ i).cap (xs.map bstr) (bstr sep) w ?_ ?_ ?_ ?_ ?_).mono ?_
  · intro j x hx
    have h1 : (concs σ (xs.flatMap sC))[j]? = some (Value.string x) := by
      rw [sC_map, concs_eq, List.map_map, List.getElem?_map]
      rw [List.getElem?_map] at hx
      cases h2 : xs[j]? with
      | none => rw [h2] at hx; cases hx
      | some y => rw [h2] at hx; cases hx; rfl
    have h3 := hcell j _ h1
    rw [r0] at h3
    exact h3
  · exact (Array.getElem?_eq_some_iff.1 hrg).1
  · simp; omega
  · simp; exact hcap
  · omega
  · rintro e w' ⟨rfl, hb⟩
    exact ⟨rfl, hb⟩
def decT (i : Nat) : List Int := bytI ⟨(Lib.decDigits i).toArray⟩
theorem dec_small {i : Nat} (h : i < 10) : Lib.decDigits i = [UInt8.ofNat (48 + i)] := by rw [Lib.decDigits, dif_pos h]
theorem dec_two {i : Nat} (h : 10 ≤ i) (h2 : i < 100) : Lib.decDigits i = [UInt8.ofNat (48 + i / 10), UInt8.ofNat (48 + i % 10)] := by
  rw [Lib.decDigits, dif_neg (by omega), dec_small (by omega)]; rfl
theorem decT_small {i : Nat} (h : i < 10) : decT i = [((48 + i : Nat) : Int)] := by
  unfold decT bytI
  rw [dec_small h]
  simp
  omega
theorem decT_two {i : Nat} (h : 10 ≤ i) (h2 : i < 100) : decT i = [((48 + i / 10 : Nat) : Int), ((48 + i % 10 : Nat) : Int)] := by
  unfold decT bytI
  rw [dec_two h h2]
  simp
  omega
theorem decT_len {i : Nat} (h2 : i < 100) : (decT i).length ≤ 2 := by
  by_cases h : i < 10
  · rw [decT_small h]; simp
  · rw [decT_two (by omega) h2]; simp
theorem wrap_u8c {x : Int} (h : 0 ≤ x) (h2 : x < 256) : IntKind.u8.wrap x = x := by
  unfold IntKind.wrap
  simp only [IntKind.bits, IntKind.signed, Bool.false_and]
  simp; omega
theorem u8s_one (x : Int) : u8s [V.v (.int .u8 x)] = some [x] := rfl
theorem decimalS0 {H : List Blk} {i : Nat} (hi : i < 10) : Cal Tryd.prog 46 [.v (.int .i64 i)] H fun u H' => u = .v (.string (bstr (decT i))) ∧ H' = H := by
  have hbs : bySl Tryd.prog 69 = some 5 := by kernel_rfl
  have hst : strT Tryd.prog 9 = true := by kernel_rfl
  have e1 : ((i : Int) < 10) = True := eq_true (by omega)
  have e2 : (i : Int).tmod 10 = (i : Int) := by rw [Int.tmod_eq_emod_of_nonneg (by omega)]; omega
  have e3 : IntKind.u8.wrap (48 + (i : Int)) = ((48 + i : Nat) : Int) := by
    rw [show (48 + (i : Int)) = ((48 + i : Nat) : Int) by omega]
    exact wrap_u8c (by omega) (by omega)
  rw [decT_small hi]
  refine cal_fn 20 mixed Tryd.func46 Tryd.ntmps46 Tryd.results46 rfl rfl rfl fun hw cx hx hq => ?_
  repeat (first | (simp only [go_sem, Int.reduceLT, Int.reduceLE, Int.reduceEq, Int.reduceToNat, hbs, hst, Tryd.underlying69, e1, e2, e3, u8s_one]) | ((with_reducible refine And.intro ?_ ?_); omega) | ((with_reducible refine isWKr (id := 3) ?_); refine WK_drawAt 3 [[],[0],[0,1],[],[3],[3,4],[3,4,5],[3,4,5,6],[3,4,5,6,7],[0,1,2,3,4,5,6,7,8],[0,1,2,3,4,5,6,7,8,9]] (by kernel_rfl) ?_) | ((with_reducible refine And.intro ?_ ?_); first | (with_reducible rfl) | assumption | (simp only [go_sem]; done)))
  refine ret_cut hq hw _ (.inl rfl) ?_
  simp [go_sem]
theorem decimalS {H : List Blk} {i : Nat} (hi : i < 100) : Cal Tryd.prog 46 [.v (.int .i64 i)] H fun u H' => u = .v (.string (bstr (decT i))) ∧ H' = H := by
  by_cases h10 : i < 10
  · exact decimalS0 h10
  have hbs : bySl Tryd.prog 69 = some 5 := by kernel_rfl
  have hst : strT Tryd.prog 9 = true := by kernel_rfl
  have e1 : ((i : Int) < 10) = False := eq_false (by omega)
  have e2 : (i : Int).tmod 10 = ((i % 10 : Nat) : Int) := by rw [Int.tmod_eq_emod_of_nonneg (by omega)]; omega
  have e4 : (i : Int).tdiv 10 = ((i / 10 : Nat) : Int) := by rw [Int.tdiv_eq_ediv_of_nonneg (by omega)]; omega
  have e3 : IntKind.u8.wrap (48 + ((i % 10 : Nat) : Int)) = ((48 + i % 10 : Nat) : Int) := by
    rw [show (48 + ((i % 10 : Nat) : Int)) = ((48 + i % 10 : Nat) : Int) by omega]
    exact wrap_u8c (by omega) (by omega)
  rw [decT_two (by omega) hi]
  refine cal_fn 20 mixed Tryd.func46 Tryd.ntmps46 Tryd.results46 rfl rfl rfl fun hw cx hx hq => ?_
  repeat (first | (simp only [go_sem, Int.reduceLT, Int.reduceLE, Int.reduceEq, Int.reduceToNat, hbs, hst, Tryd.underlying69, e1, e2, e3, e4, u8s_one, decT_small (show i / 10 < 10 by omega), bstr_app, List.cons_append, List.nil_append]) | ((with_reducible refine And.intro ?_ ?_); omega) | ((with_reducible refine isSK ?_); first | (refine call_ret (decimalS0 (i := i / 10) (by omega)) (by simp only [go_sem, Int.reduceLT, Int.reduceLE, Int.reduceEq, Int.reduceToNat, hbs, hst, Tryd.underlying69, e1, e2, e3, e4, u8s_one, decT_small (show i / 10 < 10 by omega), bstr_app, List.cons_append, List.nil_append]) ?_)) | ((with_reducible refine isMC ?_); first | (refine mcall_ret (decimalS0 (i := i / 10) (by omega)) (by simp only [go_sem, Int.reduceLT, Int.reduceLE, Int.reduceEq, Int.reduceToNat, hbs, hst, Tryd.underlying69, e1, e2, e3, e4, u8s_one, decT_small (show i / 10 < 10 by omega), bstr_app, List.cons_append, List.nil_append]) (by simp only [go_sem, Int.reduceLT, Int.reduceLE, Int.reduceEq, Int.reduceToNat, hbs, hst, Tryd.underlying69, e1, e2, e3, e4, u8s_one, decT_small (show i / 10 < 10 by omega), bstr_app, List.cons_append, List.nil_append]) ?_)) | ((with_reducible refine isWKr (id := 3) ?_); refine WK_drawAt 3 [[],[0],[0,1],[],[3],[3,4],[3,4,5],[3,4,5,6],[3,4,5,6,7],[0,1,2,3,4,5,6,7,8],[0,1,2,3,4,5,6,7,8,9]] (by kernel_rfl) ?_) | ((with_reducible refine And.intro ?_ ?_); first | (with_reducible rfl) | assumption | (simp only [go_sem]; done)))
  refine ⟨by simp only [bstr_size, List.length_singleton]; omega, ?_⟩
  refine ret_cut hq hw _ (.inl rfl) ?_
  simp [go_sem]
end Go.Proofs.YtpjimhkblldhaaaDoor

