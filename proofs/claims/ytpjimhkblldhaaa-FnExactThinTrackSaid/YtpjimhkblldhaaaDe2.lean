/- Contracts of functions of the translated program, by the walk. -/
import Derived.Test.YtpjimhkblldhaaaK13
import Derived.Test.YtpjimhkblldhaaaLD
set_option linter.unusedVariables false
set_option linter.unusedSimpArgs false
set_option maxRecDepth 8000
set_option maxHeartbeats 4000000
namespace Go.Proofs.Ytpjimhkblldhaaa
open Go Go.Sx
/-- One thing is left out of a row; a thing of zeros comes behind. -/
theorem delTrack {H : List Blk} {i j : Nat} {l : List (Nat → Int)} {je : Int} (hb : H[i]? = some ⟨l.flatMap encK, 55, .own 3⟩) (hj : j < l.length) (hje : je = (j : Int) + 1) (hl : l.length ≤ 1000) :
    Cal Try.prog 63 [.s i 0 l.length (.u 0), .v (.int .i64 j), .v (.int .i64 je)] H fun u H' => u = .s i 0 (l.length - 1) (.i 0) ∧ H' = H.set i ⟨(l.eraseIdx j ++ [fun _ => 0]).flatMap encK, 55, .own 3⟩ := by
  subst hje
  have hlt := (List.getElem?_eq_some_iff.1 hb).1
  have hfl : (l.flatMap encK).length = l.length * 3 := flat_encK.flen l
  have e1 : ((j : Int) = (j : Int) + 1) = False := eq_false (by omega)
  have z0 : (0 : Int).toNat = 0 := rfl
  have tj : ((j : Int)).toNat = j := by omega
  have tj1 : ((j : Int) + 1).toNat = j + 1 := by omega
  have tl : ((l.length : Int)).toNat = l.length := by omega
  have hel := erase_len hj
  have hn0 : ((0 : Int) < 0) = False := eq_false (by omega)
  have hn1 : (0 < (j : Int) + 1) = True := eq_true (by omega)
  have hm1 : (((l.length - 1 : Nat) : Int)).toNat = l.length - 1 := by omega
  have hm2 : (((l.length - 1 : Nat) : Int) = (l.length : Int)) = False := eq_false (by omega)
  have hm3 : l.length - (l.length - 1) = 1 := by omega
  have hle : ((l.length : Int) ≤ ((l.length - 1 : Nat) : Int)) = False := eq_false (by omega)
  have hzz : ([.v (.int .i16 0), .v (.int .i8 0), .v (.int .i8 0)] : List V) = encK (fun _ => 0) := rfl
  refine cal_fn 30 mixed Try.func63 Try.ntmps63 Try.results63 rfl rfl rfl fun hw cx hx hq => ?_
  by_cases hlast : j + 1 = l.length
  · have e2 : ((j : Int) + 1 = (l.length : Int)) = True := eq_true (by omega)
    have hj0 : j + 0 = l.length - 1 := by omega
    obtain ⟨x, hx0⟩ := last_split (by omega) hlast
    have hwr0 : wr (l.flatMap encK) (j * 3) [] = l.flatMap encK := by unfold wr; simp
    have hcl : wr (l.flatMap encK) ((l.length - 1) * 3) (encK fun _ => 0) = (l.eraseIdx j ++ [fun _ => 0]).flatMap encK := by
      have := clr_wr (enc := encK) (z := 3) (l := l.eraseIdx j) (x := x) (y := fun _ => 0) (o := (l.length - 1) * 3) flat_encK.len (by rw [hel])
      rwa [← hx0] at this
    repeat (first | (simp only [go_sem, Int.reduceLT, Int.reduceLE, Int.reduceEq, Int.reduceToNat, hb, hlt, hfl, e1, z0, tj, tj1, tl, hn0, hn1, Nat.zero_mul, Nat.zero_add, Nat.sub_zero, List.length_set, List.getElem?_set, if_true, e2, hwr0, hj0, hm1, hm2, hm3, hle, zerosL_one, hzz, ite_self, hcl]) | ((with_reducible refine And.intro ?_ ?_); omega) | ((with_reducible refine isWKr (id := 5) ?_); refine WK_drawUp 5 [[],[],[0,1],[],[],[3,4],[0,1,2,3,4,5],[0,1,2,3,4,5,6]] 6 (by kernel_rfl) ?_; dsimp only [List.take, List.drop]) | ((with_reducible refine And.intro ?_ ?_); first | (with_reducible rfl) | assumption | (simp only [go_sem]; done)))
    refine ret_at hq _ (.inl rfl) (by simp) ?_
    simp [go_sem]
  · have e2 : ((j : Int) + 1 = (l.length : Int)) = False := eq_false (by omega)
    have hj0 : j + (l.length - (j + 1)) = l.length - 1 := by omega
    obtain ⟨x, hx0⟩ := del_wr (enc := encK) flat_encK.len (l := l) (j := j) (by omega) rfl
    have hcl : wr ((l.eraseIdx j ++ [x]).flatMap encK) ((l.length - 1) * 3) (encK fun _ => 0) = (l.eraseIdx j ++ [fun _ => 0]).flatMap encK := clr_wr flat_encK.len (by rw [hel])
    have hfl2 : ((l.eraseIdx j ++ [x]).flatMap encK).length = l.length * 3 := by rw [flat_encK.flen]; congr 1; simp [hel]; omega
    repeat (first | (simp only [go_sem, Int.reduceLT, Int.reduceLE, Int.reduceEq, Int.reduceToNat, hb, hlt, hfl, e1, z0, tj, tj1, tl, hn0, hn1, Nat.zero_mul, Nat.zero_add, Nat.sub_zero, List.length_set, List.getElem?_set, if_true, e2, hx0, hj0, hfl2, hm1, hm2, hm3, hle, zerosL_one, hzz, ite_self, hcl]) | ((with_reducible refine And.intro ?_ ?_); omega) | ((with_reducible refine isWKr (id := 5) ?_); refine WK_drawUp 5 [[],[],[0,1],[],[],[3,4],[0,1,2,3,4,5],[0,1,2,3,4,5,6]] 6 (by kernel_rfl) ?_; dsimp only [List.take, List.drop]) | ((with_reducible refine And.intro ?_ ?_); first | (with_reducible rfl) | assumption | (simp only [go_sem]; done)))
    refine ret_at hq _ (.inl rfl) (by simp) ?_
    simp [go_sem]
end Go.Proofs.Ytpjimhkblldhaaa

