/- Contracts of functions of the translated program, by the walk. -/
import Derived.Test.YtheeehjgmifclaaBl4
set_option linter.unusedVariables false
set_option linter.unusedSimpArgs false
set_option maxRecDepth 8000
set_option maxHeartbeats 4000000
namespace Go.Proofs.Ytheeehjgmifclaa
open Go Go.Sx
theorem writeByte0 {H : List Blk} {bi : Nat} {x : Int} (hb : H[bi]? = some ⟨[.v (.pointer none), .v (.slice none 0 0)], 156, .fix⟩) :
    Cal Try.prog 140 [.p bi 0, .v (.int .u8 x)] H fun u H' => u = .v .nilIface ∧ H' = H.set bi ⟨[.p bi 0, .s (H.length + 1) 0 1 (.u 0)], 156, .fix⟩ ++ [⟨[.v (.int .u8 x)], 5, .own 1⟩, ⟨[.v (.int .u8 x)], 5, .own 1⟩] := by
  have hbl := (List.getElem?_eq_some_iff.1 hb).1
  have hsa : ∀ (L : List Blk) (B : Blk), (H ++ L).set bi B = H.set bi B ++ L := fun L B => List.set_append_left bi B hbl
  have hsg : ∀ B : Blk, (H.set bi B)[bi]? = some B := fun B => List.getElem?_set_self hbl
  have hsg2 : ∀ (L : List Blk) (B : Blk), (H.set bi B ++ L)[bi]? = some B := fun L B => by rw [List.getElem?_append_left (by simpa using hbl), List.getElem?_set_self hbl]
  have hsa2 : ∀ (L : List Blk) (B B' : Blk), (H.set bi B ++ L).set bi B' = H.set bi B' ++ L := fun L B B' => by rw [List.set_append_left bi B' (by simpa using hbl), List.set_set]
  have hga : ∀ (L : List Blk) (B : Blk), (H.set bi B ++ L)[H.length]? = L[0]? := fun L B => by have := Go.Sx.get_at0 (H.set bi B) L; rwa [List.length_set] at this
  refine cal_fn 15 mixed Try.func140 Try.ntmps140 Try.results140 rfl rfl rfl fun hw cx hx hq => ?_
  repeat (first | (simp only [go_sem, Int.reduceLT, Int.reduceLE, Int.reduceEq, Int.reduceToNat, hsg, hb, hsa, hsa2, hsg2, hga, List.length_set]) | ((with_reducible refine And.intro ?_ ?_); omega) | ((with_reducible refine isSK ?_); first | (refine call_ret (copyFresh hb) (by simp only [go_sem, Int.reduceLT, Int.reduceLE, Int.reduceEq, Int.reduceToNat, hsg, hb, hsa, hsa2, hsg2, hga, List.length_set]) ?_)) | ((with_reducible refine isMC ?_); first | (refine mcall_ret (copyFresh hb) (by simp only [go_sem, Int.reduceLT, Int.reduceLE, Int.reduceEq, Int.reduceToNat, hsg, hb, hsa, hsa2, hsg2, hga, List.length_set]) (by simp only [go_sem, Int.reduceLT, Int.reduceLE, Int.reduceEq, Int.reduceToNat, hsg, hb, hsa, hsa2, hsg2, hga, List.length_set]) ?_)) | ((with_reducible refine And.intro ?_ ?_); first | (with_reducible rfl) | assumption | (simp only [go_sem]; done)))
  refine ret_at hq _ (.inl rfl) (by simp) ?_
  simp [go_sem, hsa2]
theorem writeByte1 {H : List Blk} {bi r n : Nat} {x : Int} {l : List Int} (hb : H[bi]? = some ⟨[.p bi 0, .s r 0 n .w], 156, .fix⟩) (hr : H[r]? = some ⟨l.flatMap u8C, 5, .own 1⟩) (hn : n = l.length) (hl : l.length ≤ 1000000) :
    Cal Try.prog 140 [.p bi 0, .v (.int .u8 x)] H fun u H' => u = .v .nilIface ∧ H' = (H.set r ⟨[], 5, .dead⟩).set bi ⟨[.p bi 0, .s (H.length + 1) 0 (n + 1) .w], 156, .fix⟩ ++ [⟨[.v (.int .u8 x)], 5, .own 1⟩, ⟨(l ++ [x]).flatMap u8C, 5, .own 1⟩] := by
  subst hn
  have hbl := (List.getElem?_eq_some_iff.1 hb).1
  have hrl := (List.getElem?_eq_some_iff.1 hr).1
  have hne : r ≠ bi := fun e => by rw [e, hb] at hr; have := congrArg Blk.k (Option.some.inj hr); cases this
  have hfl : (l.flatMap u8C).length = l.length := by rw [flat_u8.flen, Nat.mul_one]
  have hsa : ∀ (L : List Blk) (B : Blk), (H ++ L).set bi B = H.set bi B ++ L := fun L B => List.set_append_left bi B hbl
  have hsg : ∀ B : Blk, (H.set bi B)[bi]? = some B := fun B => List.getElem?_set_self hbl
  have hsg2 : ∀ (L : List Blk) (B : Blk), (H.set bi B ++ L)[bi]? = some B := fun L B => by rw [List.getElem?_append_left (by simpa using hbl), List.getElem?_set_self hbl]
  have hsa2 : ∀ (L : List Blk) (B B' : Blk), (H.set bi B ++ L).set bi B' = H.set bi B' ++ L := fun L B B' => by rw [List.set_append_left bi B' (by simpa using hbl), List.set_set]
  have hra : ∀ (L : List Blk) (B : Blk), (H ++ L).set r B = H.set r B ++ L := fun L B => List.set_append_left r B hrl
  have hrg : ∀ (L : List Blk) (B : Blk), (H.set r B ++ L)[bi]? = some ⟨[.p bi 0, .s r 0 l.length .w], 156, .fix⟩ := fun L B => by rw [List.getElem?_append_left (by simpa using hbl), List.getElem?_set_ne hne]; exact hb
  have hra2 : ∀ (L : List Blk) (B B' : Blk), (H.set r B ++ L).set bi B' = (H.set r B).set bi B' ++ L := fun L B B' => by rw [List.set_append_left bi B' (by simpa using hbl)]
  refine cal_fn 15 mixed Try.func140 Try.ntmps140 Try.results140 rfl rfl rfl fun hw cx hx hq => ?_
  repeat (first | (simp only [go_sem, Int.reduceLT, Int.reduceLE, Int.reduceEq, Int.reduceToNat, hb, get_app hr, get_app hb, hr, hbl, hfl, hra, hra2, hrg, List.length_set]) | ((with_reducible refine And.intro ?_ ?_); omega) | ((with_reducible refine isSK ?_); first | (refine call_ret (copyUsed hb) (by simp only [go_sem, Int.reduceLT, Int.reduceLE, Int.reduceEq, Int.reduceToNat, hb, get_app hr, get_app hb, hr, hbl, hfl, hra, hra2, hrg, List.length_set]) ?_)) | ((with_reducible refine isMC ?_); first | (refine mcall_ret (copyUsed hb) (by simp only [go_sem, Int.reduceLT, Int.reduceLE, Int.reduceEq, Int.reduceToNat, hb, get_app hr, get_app hb, hr, hbl, hfl, hra, hra2, hrg, List.length_set]) (by simp only [go_sem, Int.reduceLT, Int.reduceLE, Int.reduceEq, Int.reduceToNat, hb, get_app hr, get_app hb, hr, hbl, hfl, hra, hra2, hrg, List.length_set]) ?_)) | ((with_reducible refine And.intro ?_ ?_); first | (with_reducible rfl) | assumption | (simp only [go_sem]; done)))
  refine ret_at hq _ (.inl rfl) (by simp) ?_
  simp [go_sem, u8C]
end Go.Proofs.Ytheeehjgmifclaa

