/- FnExactFillGap: for all arguments the law's function returns true and writes nothing that was there: the given statement. -/
import Derived.Test.YtjkkallcgplgmaaFg4
import Derived.Test.YtjkkallcgplgmaaLD
import Derived.Test.YtjkkallcgplgmaaRows
set_option linter.unusedVariables false
set_option linter.unusedSimpArgs false
set_option maxRecDepth 8000
set_option maxHeartbeats 4000000
namespace Go.Proofs.Ytjkkallcgplgmaa
open Go Go.Sx Go.ChangeShapes Go.WideShapes Go.ChangeAt Go.RowKit
theorem fnExactFillGapOwn : ownKnob Try.prog.godebug = none := by kernel_rfl
theorem fnExactFillGapLaidOut : laidOutB Try.prog = true := by kernel_rfl
set_option maxRecDepth 100000 in
theorem fnExactFillGapLifted (os : Os) (started : os.Started) (H : Type) (enc : TypeId × Value → H) :
    ReturnsInHanded {} Try.checked os 10 .any (Rows.fnExactFillGapSpec.pre6 enc Try.prog Try.f10 Rows.fnExactFillGapRow.domain false) (Rows.fnExactFillGapSpec.post enc Try.prog Try.f10 false true false false) := by
  have laidOut := fnExactFillGapLaidOut
  refine returnsInHanded_of_change_sized (C := Try.checked) fnExactFillGapOwn started (by kernel_rfl) Try.func10
    (ChangeSpec.witness6 (enc := enc) (C := Try.checked) false ⟨#[], #[.slice none 0 0, .int .i64 0], []⟩ 8 (by kernel_rfl) (by kernel_rfl) (by kernel_rfl) (by kernel_rfl)) ?_
  intro W base args ds gs before hval0 hW hcnd hsz0 _
  have hsz : (DataW.weightsEach Try.prog (Try.f10.params.toList ++ Rows.fnExactFillGapSpec.plain.varTypes Try.prog) (ds ++ gs)).all (· ≤ reachBytes) = true := hsz0
  have hval : ∀ (j : Nat) t v, Try.f10.params[j]? = some t → args[j]? = some v → Value.okWide Try.prog W .any base t v := hval0
  have hW' := hW
  obtain ⟨p, q, hA0, hV, rfl, hfz, hnd⟩ := hW
  have hA : DataW.TrodAll enc Try.prog W 0 (fun _ => true) true Try.f10.params.toList args.toList ds p := hA0
  rw [Try.params10] at hA hval hsz
  obtain ⟨v0, vs0, d0, ds0, p0, q0, hargs, rfl, rfl, h0, r0⟩ := trodAll_cons hA
  obtain ⟨v1, vs1, d1, ds1, p1, q1, rfl, rfl, rfl, h1, r1⟩ := trodAll_cons r0
  obtain ⟨rfl, rfl, rfl⟩ := trodAll_nil r1
  obtain rfl : args = #[v0, v1] := by cases args; simp_all
  obtain ⟨rfl, rfl⟩ := trodVars_none hV
  have k0 := h0
  have lt0 : ∀ x ∈ p0, x.block < W.heap.size := by obtain ⟨m, hm⟩ := k0; exact DataW.trod_lt m _ _ _ hm
  have k1 := h1
  have lt1 : ∀ x ∈ p1, x.block < W.heap.size := by obtain ⟨m, hm⟩ := k1; exact DataW.trod_lt m _ _ _ hm
  obtain ⟨loc0, b0, x0, cs0, hx0, hb0, hsl0, hcs0, hlt0, m0⟩ := open_slv (ks := List.replicate 12 (.i .u16)) 0 Try.underlying22 (by kernel_rfl) (by kernel_rfl) (hval 0 22 v0 rfl rfl) h0
  obtain ⟨l0, hcl0, f0⟩ := rows_of hcs0
  have m0 : l0.length ≤ 9223372036854775807 := by have e := congrArg List.length hcl0; rw [List.length_map] at e; rw [← e]; exact m0
  obtain ⟨a1, rfl, rfl, rfl, w10⟩ := open_int Try.underlying2 (hval 1 2 v1 rfl rfl) h1
  have w1 := bounds_i64 w10
  let σ : Nat → Go.Sx.Loc := fun i => if i = 0 then loc0 else ⟨0, 0, 0⟩
  have s0 : σ 0 = loc0 := rfl
  have R0 := (hsl0 [b0] rfl).rd hcl0
  have hrel : HRel σ [b0] W := HRel_ro fun i b hi => by
    match i, hi with
    | 0, hi => obtain rfl : b0 = b := Option.some.inj hi; exact hb0 σ s0
    | i + 1, hi => exact absurd hi (by simp)
  have hro : ∀ b ∈ [b0], b.k.mut = false := fun b hb => by
    obtain ⟨i, hi⟩ := List.getElem?_of_mem hb
    match i, hi with
    | 0, hi => obtain rfl : b0 = b := Option.some.inj hi; exact (hb0 σ s0).2.1
    | i + 1, hi => exact absurd hi (by simp)
  have L0 : V.lt 1 x0 := hlt0 _ (by omega)
  have C0 := hx0 σ s0
  have y00 := sized_slv hsz (j := 0) (t := 22) rfl rfl Try.underlying22 (B := 24) (by kernel_rfl) k0 C0 (hsl0 [b0] rfl)
  have y0 : l0.length * 24 ≤ 140737488351232 := by have e := congrArg List.length hcl0; rw [List.length_map] at e; rw [← e]; exact y00
  have q0 := (hsl0 [b0] rfl).kc
  (try clear hA0); (try clear hval0); (try clear hsz0)
  refine (calls_of_cal (H := [b0]) (args := [x0, .v (.int .i64 a1)]) (σ := σ) (lawFillGap R0 (fun f hf => r16_of_wf' (f0 f hf)) m0 w1) (fun v H' h => h.1) hrel (by simp [go_sem, L0]) hro (by (try simp only [concs, C0]) <;> (try simp only [conc]))).mono fun e W' ⟨he, bel⟩ => ?_
  subst he
  exact ⟨_, rfl, _, _, _, [], _, [], hW', trodAll_mk1 (shut_bool Try.underlying4 _), (trodAll_cons_mk (Below.trod laidOut (by kernel_rfl) (of_decide_eq_true (by kernel_rfl)) k0 bel lt0) (trodAll_cons_mk (Below.trod laidOut (by kernel_rfl) (of_decide_eq_true (by kernel_rfl)) k1 bel lt1) trodAll_mk0)), rfl, bel.frame _, fun h => by cases h⟩
theorem fnExactFillGapProved : Rows.FnExactFillGapSaid :=
  OpenClaim.holds_of_wide 10 Try.f10 rfl rfl rfl rfl rfl rfl rfl ⟨rfl, rfl, rfl, rfl, rfl⟩ rfl rfl rfl rfl rfl (by kernel_rfl) Try.func10 (by kernel_rfl)
    (of_decide_eq_true (by kernel_rfl)) (by unfold Func.isWrapper; first | (rw [if_pos (by decide +kernel)]; kernel_rfl) | (rw [if_neg (by decide +kernel)]; exact ⟨rfl, rfl⟩))
    (fun os started H enc _ => fnExactFillGapLifted os started H enc)
end Go.Proofs.Ytjkkallcgplgmaa

