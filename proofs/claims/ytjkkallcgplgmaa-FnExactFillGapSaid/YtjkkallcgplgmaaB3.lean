/- Contracts of functions of the translated program, by the walk. -/
import Derived.Test.YtjkkallcgplgmaaB2
set_option linter.unusedVariables false
set_option linter.unusedSimpArgs false
set_option maxRecDepth 8000
set_option maxHeartbeats 4000000
namespace Go.Proofs.Ytjkkallcgplgmaa
open Go Go.Sx
theorem hz12 : ∀ x : Nat → Int, (rowL .u16 12 x).length = 12 := fun _ => rowL_length ..
theorem cloneBook {H : List Blk} {i off : Nat} {c : Cap} {b : Blk} {l : List (Nat → Int)} (h : At H i off (l.flatMap (rowL .u16 12)) b) (hf : off + (l.flatMap (rowL .u16 12)).length ≤ b.cells.length) (hl : l.length ≤ 1000000) :
    Cal Try.prog 69 [.s i off l.length c] H fun u H' => u = .s H.length 0 l.length (.u 0) ∧ H' = H ++ [⟨l.flatMap (rowL .u16 12), 64, .own 12⟩] := by
  refine cal_fn 7 mixed Try.func69 Try.ntmps69 Try.results69 rfl rfl rfl fun hw cx hx hq => ?_
  have hfl := Flat.flen (flat_rowL .u16 12) l
  rw [hfl] at hf
  have hn : norefH H.length H := norefH_wf hw (Nat.le_refl _)
  have hij : (i = H.length) = False := eq_false (by have := h.lt; omega)
  simp only [go_sem, h.get, h.live, h.lt, h.all hz12, hn, hij, hx]
  repeat (refine And.intro (by omega) ?_)
  refine ret_at hq _ (.inl rfl) (by simp) ?_
  simp only [go_sem]
theorem markBookL {H : List Blk} {i n : Nat} {c : Cap} {l r : List (Nat → Int)} {ty : TypeId} {kd : BK} {k : Int} (h : H[i]? = some ⟨(l ++ r).flatMap (rowL .u16 12), ty, kd⟩) (hk : kd.mut = true) (hn : n = l.length) (hl : l.length ≤ 1000000) (hk0 : 0 ≤ k ∧ k ≤ 1000000000) :
    Cal Try.prog 26 [.s i 0 n c, .v (.int .i64 k)] H fun u H' => u = .v (.int .i64 (k + (l.length * 12 : Nat))) ∧ H' = H.set i ⟨rowL .u16 (l.length * 12) (mk16 k) ++ r.flatMap (rowL .u16 12), ty, kd⟩ := by
  subst hn
  rw [List.flatMap_append, flat_row .u16 12 (by omega) l] at h
  exact markBook h hk hl hk0
theorem markBookO {H : List Blk} {i n : Nat} {c : Cap} {l : List (Nat → Int)} {ty : TypeId} {kd : BK} {k : Int} (h : H[i]? = some ⟨l.flatMap (rowL .u16 12), ty, kd⟩) (hk : kd.mut = true) (hn : n = l.length) (hl : l.length ≤ 1000000) (hk0 : 0 ≤ k ∧ k ≤ 1000000000) :
    Cal Try.prog 26 [.s i 0 n c, .v (.int .i64 k)] H fun u H' => u = .v (.int .i64 (k + (l.length * 12 : Nat))) ∧ H' = H.set i ⟨rowL .u16 (l.length * 12) (mk16 k), ty, kd⟩ := by
  have := markBookL (r := []) (H := H) (i := i) (n := n) (c := c) (l := l) (ty := ty) (kd := kd) (k := k) (by simpa using h) hk hn hl hk0
  simpa using this
end Go.Proofs.Ytjkkallcgplgmaa

