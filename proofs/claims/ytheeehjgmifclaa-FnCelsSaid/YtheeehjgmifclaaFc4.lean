/- Contracts of functions of the translated program, by the walk. -/
import Derived.Test.YtheeehjgmifclaaFc3
import Derived.Test.YtheeehjgmifclaaCt4
set_option linter.unusedVariables false
set_option linter.unusedSimpArgs false
set_option maxRecDepth 8000
set_option maxHeartbeats 4000000
namespace Go.Proofs.Ytheeehjgmifclaa
open Go Go.Sx
open Go.RowKit
def restC : Nat → Code → Code
  | n + 1, .seq _ b => restC n b
  | _, c => c
def graftC : Nat → Code → Code → Code
  | n + 1, .seq a b, t => .seq a (graftC n b t)
  | _, _, t => t
theorem graft_rest : ∀ (n : Nat) (c : Code), graftC n c (restC n c) = c
  | 0, c => by unfold graftC restC; rfl
  | n + 1, c => by
    cases c <;> simp [graftC, restC]
    exact graft_rest n _
/-- The rest of a piece of code, for itself. -/
theorem WK_cut {P : Program} {x : Cx} {k : List Kt} {s : St} (n : Nat) {c T : Code} (hT : T = restC n c) (h : WK P x k (graftC n c T) s) : WK P x k c s := by
  rw [hT, graft_rest] at h; exact h
theorem layI {H : List Blk} {f g f' g' : Nat → Int} (h : CelP f g) (h' : CelP f' g') : Cal Try.prog 49 [.a (rowL .u16 12 (f) ++ rowL .u16 12 (g)), .a (rowL .u16 12 (f') ++ rowL .u16 12 (g'))] H fun v H' => v = .t [.a (rowL .u16 12 (joinF f (lessF f' g)) ++ rowL .u16 12 (joinF g g')), .v (.int .i64 0)] ∧ H' = H := by
  have := implLayOver (H := H) (f := f) (g := g) (f' := f') (g' := g')
  rwa [h.ok, h'.ok] at this
theorem layS {H : List Blk} {f g f' g' : Nat → Int} (h : CelP f g) (h' : CelP f' g') : Cal Try.prog 50 [.a (rowL .u16 12 (f) ++ rowL .u16 12 (g)), .a (rowL .u16 12 (f') ++ rowL .u16 12 (g'))] H fun v H' => v = .t [.a (rowL .u16 12 (joinF f (lessF f' g)) ++ rowL .u16 12 (joinF g g')), .v (.int .i64 0)] ∧ H' = H := by
  have := specLayOver (H := H) (f := f) (g := g) (f' := f') (g' := g')
  rwa [h.ok, h'.ok] at this
theorem showI {H : List Blk} {f g : Nat → Int} (h : CelP f g) : Cal Try.prog 51 [.a (rowL .u16 12 (f) ++ rowL .u16 12 (g))] H fun v H' => v = .t [.a (rowL .u16 12 (f)), .v (.int .i64 0)] ∧ H' = H := by
  have := implShownBy (H := H) (f := f) (g := g)
  rwa [h.ok] at this
theorem validI {H : List Blk} {f g : Nat → Int} (h : CelP f g) : Cal Try.prog 52 [.a (rowL .u16 12 (f) ++ rowL .u16 12 (g))] H fun v H' => v = .v (.bool true) ∧ H' = H := by
  have := implValidCel (H := H) (f := f) (g := g)
  rwa [h.ok] at this
theorem moveI {H : List Blk} {f g : Nat → Int} {e s : Int} (h : CelP f g) (he : -12 ≤ e ∧ e ≤ 12) (hs : -12 ≤ s ∧ s ≤ 12) : Cal Try.prog 54 [.a (rowL .u16 12 (f) ++ rowL .u16 12 (g)), .v (.int .i64 e), .v (.int .i64 s)] H fun v H' => v = .t [.a (rowL .u16 12 (movI f e s) ++ rowL .u16 12 (movI g e s)), .v (.int .i64 0)] ∧ H' = H := by
  have := implMoveCel (H := H) (e := e) (s := s) h.ink.r16 h.cov.r16
  rwa [mvC_ok h he hs] at this
theorem moveS {H : List Blk} {f g : Nat → Int} {e s : Int} (h : CelP f g) (he : -12 ≤ e ∧ e ≤ 12) (hs : -12 ≤ s ∧ s ≤ 12) : Cal Try.prog 55 [.a (rowL .u16 12 (f) ++ rowL .u16 12 (g)), .v (.int .i64 e), .v (.int .i64 s)] H fun v H' => v = .t [.a (rowL .u16 12 (movI f e s) ++ rowL .u16 12 (movI g e s)), .v (.int .i64 0)] ∧ H' = H := by
  have := specMoveCel (H := H) (e := e) (s := s) h.ink.r16 h.cov.r16
  rwa [mvC_ok h he hs] at this
theorem fromI {H : List Blk} {f g : Nat → Int} (h : CelP f g) : Cal Try.prog 56 [.a (rowL .u16 12 (f)), .a (rowL .u16 12 (g))] H fun v H' => v = .t [.a (rowL .u16 12 (f) ++ rowL .u16 12 (g)), .v (.int .i64 0)] ∧ H' = H := by
  have := implCelFrom (H := H) (f := f) (g := g)
  rw [okF_of h.ink, okF_of h.cov] at this
  simp only [Bool.and_self, if_true, join_ink h] at this
  exact this
theorem textI {H : List Blk} {f g : Nat → Int} (h : CelP f g) : Cal Try.prog 48 [.a (rowL .u16 12 (f) ++ rowL .u16 12 (g))] H fun u H' => u = .v (.string (bstr (cxL f g 156))) ∧ H' = H := by
  have := implCelText (H := H) h.ink.r16 h.cov.r16
  rwa [h.ok] at this
theorem readBack {H : List Blk} {f g : Nat → Int} (h : CelP f g) : Cal Try.prog 47 [.v (.string (bstr (cxL f g 156)))] H fun v H' => v = .t [.a (rowL .u16 12 (f) ++ rowL .u16 12 (g)), .v (.int .i64 0)] ∧ H' = H := by
  have := implReadCel (H := H) (t := cxL f g 156) (cxL_8 f g 156) (by rw [cxL_len]; omega)
  rw [rcF_cx h, rcG_cx h, (rc_good (cx_cel_good f g)).2.2] at this
  exact this
theorem news8 {H : List Blk} {v : V} {l : List Int} (h : Rd H v u8C l) : newsV H 1 v = some (True, l.length, l.flatMap u8C) := by
  rcases h with ⟨rfl, rfl⟩ | ⟨i, off, c, b, rfl, hat, hf⟩
  · rfl
  · have hfl : (l.flatMap u8C).length = l.length := by rw [flat_u8.flen, Nat.mul_one]
    have hs := hat.sg
    rw [hfl] at hs hf
    have e1 : (b.k.live = true ∧ off + l.length ≤ b.cells.length) = True := eq_true ⟨hat.live, hf⟩
    simp only [newsV_s, hat.get, nwP_some, Nat.mul_one, hs, e1]
end Go.Proofs.Ytheeehjgmifclaa

