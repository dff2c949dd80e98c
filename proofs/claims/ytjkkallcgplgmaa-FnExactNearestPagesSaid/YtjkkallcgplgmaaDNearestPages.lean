/- FnExactNearestPages: for all arguments the law's function returns true and writes nothing that was there: the given statement. -/
import Derived.Test.YtjkkallcgplgmaaNp10
import Derived.Test.YtjkkallcgplgmaaLD
import Derived.Test.YtjkkallcgplgmaaRows
set_option linter.unusedVariables false
set_option linter.unusedSimpArgs false
set_option maxRecDepth 8000
set_option maxHeartbeats 4000000
namespace Go.Proofs.Ytjkkallcgplgmaa
open Go Go.Sx Go.ChangeShapes Go.WideShapes Go.ChangeAt Go.RowKit
theorem fnExactNearestPagesOwn : ownKnob Try.prog.godebug = none := by kernel_rfl
theorem fnExactNearestPagesLaidOut : laidOutB Try.prog = true := by kernel_rfl
set_option maxRecDepth 100000 in
theorem fnExactNearestPagesLifted (os : Os) (started : os.Started) (H : Type) (enc : TypeId × Value → H) :
    ReturnsInHanded {} Try.checked os 11 .any (Rows.fnExactNearestPagesSpec.pre6 enc Try.prog Try.f11 Rows.fnExactNearestPagesRow.domain false) (Rows.fnExactNearestPagesSpec.post enc Try.prog Try.f11 false true false false) := by
  have laidOut := fnExactNearestPagesLaidOut
  refine returnsInHanded_of_change_sized (C := Try.checked) fnExactNearestPagesOwn started (by kernel_rfl) Try.func11
    (ChangeSpec.witness6 (enc := enc) (C := Try.checked) false ⟨#[], #[.slice none 0 0, .int .i64 0, .int .i64 0], []⟩ 8 (by kernel_rfl) (by kernel_rfl) (by kernel_rfl) (by kernel_rfl)) ?_
  intro W base args ds gs before hval0 hW hcnd hsz0 _
  have hsz : (DataW.weightsEach Try.prog (Try.f11.params.toList ++ Rows.fnExactNearestPagesSpec.plain.varTypes Try.prog) (ds ++ gs)).all (· ≤ reachBytes) = true := hsz0
  have hval : ∀ (j : Nat) t v, Try.f11.params[j]? = some t → args[j]? = some v → Value.okWide Try.prog W .any base t v := hval0
  have hW' := hW
  obtain ⟨p, q, hA0, hV, rfl, hfz, hnd⟩ := hW
  have hA : DataW.TrodAll enc Try.prog W 0 (fun _ => true) true Try.f11.params.toList args.toList ds p := hA0
  rw [Try.params11] at hA hval hsz
  obtain ⟨v0, vs0, d0, ds0, p0, q0, hargs, rfl, rfl, h0, r0⟩ := trodAll_cons hA
  obtain ⟨v1, vs1, d1, ds1, p1, q1, rfl, rfl, rfl, h1, r1⟩ := trodAll_cons r0
  obtain ⟨v2, vs2, d2, ds2, p2, q2, rfl, rfl, rfl, h2, r2⟩ := trodAll_cons r1
  obtain ⟨rfl, rfl, rfl⟩ := trodAll_nil r2
  obtain rfl : args = #[v0, v1, v2] := by cases args; simp_all
  obtain ⟨rfl, rfl⟩ := trodVars_none hV
  have k0 := h0
  have lt0 : ∀ x ∈ p0, x.block < W.heap.size := by obtain ⟨m, hm⟩ := k0; exact DataW.trod_lt m _ _ _ hm
  have k1 := h1
  have lt1 : ∀ x ∈ p1, x.block < W.heap.size := by obtain ⟨m, hm⟩ := k1; exact DataW.trod_lt m _ _ _ hm
  have k2 := h2
  have lt2 : ∀ x ∈ p2, x.block < W.heap.size := by obtain ⟨m, hm⟩ := k2; exact DataW.trod_lt m _ _ _ hm
  obtain ⟨loc0, b0, x0, cs0, hx0, hb0, hsl0, hcs0, hlt0, m0⟩ := open_slv (ks := List.replicate 12 (.i .u16)) 0 Try.underlying22 (by kernel_rfl) (by kernel_rfl) (hval 0 22 v0 rfl rfl) h0
  obtain ⟨l0, hcl0, f0⟩ := rows_of hcs0
  have m0 : l0.length ≤ 9223372036854775807 := by have e := congrArg List.length hcl0; rw [List.length_map] at e; rw [← e]; exact m0
  obtain ⟨a1, rfl, rfl, rfl, w10⟩ := open_int Try.underlying2 (hval 1 2 v1 rfl rfl) h1
  have w1 := bounds_i64 w10
  obtain ⟨a2, rfl, rfl, rfl, w20⟩ := open_int Try.underlying2 (hval 2 2 v2 rfl rfl) h2
  have w2 := bounds_i64 w20
  let σ : Nat → Go.Sx.Loc := fun i => if i = 0 then loc0 else ⟨0, 0, 0⟩
  have s0 : σ 0 = loc0 := rfl
  have R0 := (hsl0 [b0] rfl).rd hcl0
  have hrel : HRel σ [b0] W := HRel_ro fun i b hi => by
    match i, hi with
    | 0, hi => obtain rfl : b0 = b := Option.some.inj hi; exact hb0 σ s0
    | i + 1, hi => exact absurd hi (by simp)
  have hro : ∀ b ∈ [b0], b.k.mut = false := fun b hb => by
    obtain ⟨i, hi⟩ := List.getElem?_of_mem hb
    match i, hi with
    | 0, hi => obtain rfl : b0 = b := Option.some.inj hi; exact (hb0 σ s0).2.1
    | i + 1, hi => exact absurd hi (by simp)
  have L0 : V.lt 1 x0 := hlt0 _ (by omega)
  have C0 := hx0 σ s0
  have y00 := sized_slv hsz (j := 0) (t := 22) rfl rfl Try.underlying22 (B := 24) (by kernel_rfl) k0 C0 (hsl0 [b0] rfl)
  have y0 : l0.length * 24 ≤ 140737488351232 := by have e := congrArg List.length hcl0; rw [List.length_map] at e; rw [← e]; exact y00
  have q0 := (hsl0 [b0] rfl).kc
  clear hA0 hval0 hsz0
  refine (calls_of_cal (H := [b0]) (args := [x0, .v (.int .i64 a1), .v (.int .i64 a2)]) (σ := σ) (lawNearestPages R0 m0 (fun f hf => r16_of_wf' (f0 f hf))) (fun v H' h => h.1) hrel (by simp [go_sem, L0]) hro (by (try simp only [concs, C0]) <;> (try simp only [conc]))).mono fun e W' ⟨he, bel⟩ => ?_
  subst he
  exact ⟨_, rfl, _, _, _, [], _, [], hW', trodAll_mk1 (shut_bool Try.underlying4 _), (trodAll_cons_mk (Below.trod laidOut (by kernel_rfl) (of_decide_eq_true (by kernel_rfl)) k0 bel lt0) (trodAll_cons_mk (Below.trod laidOut (by kernel_rfl) (of_decide_eq_true (by kernel_rfl)) k1 bel lt1) (trodAll_cons_mk (Below.trod laidOut (by kernel_rfl) (of_decide_eq_true (by kernel_rfl)) k2 bel lt2) trodAll_mk0))), rfl, bel.frame _, fun h => by cases h⟩
theorem fnExactNearestPagesProved : Rows.FnExactNearestPagesSaid :=
  OpenClaim.holds_of_wide 11 Try.f11 rfl rfl rfl rfl rfl rfl rfl ⟨rfl, rfl, rfl, rfl, rfl⟩ rfl rfl rfl rfl rfl (by kernel_rfl) Try.func11 (by kernel_rfl)
    (of_decide_eq_true (by kernel_rfl)) (by unfold Func.isWrapper; first | (rw [if_pos (by decide +kernel)]; kernel_rfl) | (rw [if_neg (by decide +kernel)]; exact ⟨rfl, rfl⟩))
    (fun os started H enc _ => fnExactNearestPagesLifted os started H enc)
end Go.Proofs.Ytjkkallcgplgmaa

