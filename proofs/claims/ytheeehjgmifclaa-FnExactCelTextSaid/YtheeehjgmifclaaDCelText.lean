/- FnExactCelText: for all arguments the law's function returns true and writes nothing that was there: the given statement. -/
import Derived.Test.YtheeehjgmifclaaCt4
import Derived.Test.YtheeehjgmifclaaLD
import Derived.Test.YtheeehjgmifclaaRows
set_option linter.unusedVariables false
set_option linter.unusedSimpArgs false
set_option maxRecDepth 8000
set_option maxHeartbeats 4000000
namespace Go.Proofs.Ytheeehjgmifclaa
open Go Go.Sx Go.ChangeShapes Go.WideShapes Go.ChangeAt Go.RowKit
theorem fnExactCelTextOwn : ownKnob Try.prog.godebug = none := by kernel_rfl
theorem fnExactCelTextLaidOut : laidOutB Try.prog = true := by kernel_rfl
set_option maxRecDepth 100000 in
theorem fnExactCelTextLifted (os : Os) (started : os.Started) (H : Type) (enc : TypeId × Value → H) :
    ReturnsInHanded {} Try.checked os 13 .any (Rows.fnExactCelTextSpec.pre6 enc Try.prog Try.f13 Rows.fnExactCelTextRow.domain false) (Rows.fnExactCelTextSpec.post enc Try.prog Try.f13 false true false false) := by
  have laidOut := fnExactCelTextLaidOut
  refine returnsInHanded_of_change_sized (C := Try.checked) fnExactCelTextOwn started (by kernel_rfl) Try.func13
    (ChangeSpec.witness6 (enc := enc) (C := Try.checked) false ⟨#[], #[.agg #[.int .u16 0, .int .u16 0, .int .u16 0, .int .u16 0, .int .u16 0, .int .u16 0, .int .u16 0, .int .u16 0, .int .u16 0, .int .u16 0, .int .u16 0, .int .u16 0, .int .u16 0, .int .u16 0, .int .u16 0, .int .u16 0, .int .u16 0, .int .u16 0, .int .u16 0, .int .u16 0, .int .u16 0, .int .u16 0, .int .u16 0, .int .u16 0]], []⟩ 8 (by kernel_rfl) (by kernel_rfl) (by kernel_rfl) (by kernel_rfl)) ?_
  intro W base args ds gs before hval0 hW hcnd hsz0 _
  have hsz : (DataW.weightsEach Try.prog (Try.f13.params.toList ++ Rows.fnExactCelTextSpec.plain.varTypes Try.prog) (ds ++ gs)).all (· ≤ reachBytes) = true := hsz0
  have hval : ∀ (j : Nat) t v, Try.f13.params[j]? = some t → args[j]? = some v → Value.okWide Try.prog W .any base t v := hval0
  have hW' := hW
  obtain ⟨p, q, hA0, hV, rfl, hfz, hnd⟩ := hW
  have hA : DataW.TrodAll enc Try.prog W 0 (fun _ => true) true Try.f13.params.toList args.toList ds p := hA0
  rw [Try.params13] at hA hval hsz
  obtain ⟨v0, vs0, d0, ds0, p0, q0, hargs, rfl, rfl, h0, r0⟩ := trodAll_cons hA
  obtain ⟨rfl, rfl, rfl⟩ := trodAll_nil r0
  obtain rfl : args = #[v0] := by cases args; simp_all
  obtain ⟨rfl, rfl⟩ := trodVars_none hV
  have k0 := h0
  have lt0 : ∀ x ∈ p0, x.block < W.heap.size := by obtain ⟨m, hm⟩ := k0; exact DataW.trod_lt m _ _ _ hm
  obtain ⟨cs0, hc0, hok0, hwf0⟩ := open_agg eqo35 (hval 0 35 v0 rfl rfl) h0
  obtain ⟨a0, rfl, f0⟩ := okV_row hok0 hwf0
  rw [cel0] at hc0
  let σ : Nat → Go.Sx.Loc := fun i => ⟨0, 0, 0⟩
  clear hA0 hval0 hsz0
  refine (calls_of_cal (H := []) (args := [.a (rowL .u16 12 a0 ++ rowL .u16 12 fun j => a0 (12 + j))]) (σ := σ) (lawCelText (r16_of_wf' fun j hj => f0 j (by omega)) (r16_of_wf' fun j hj => f0 (12 + j) (by omega))) (fun v H' h => h.1) (HRel_nil _ W) (by simp [go_sem]) (fun b hb => by cases hb) (by (try simp only [concs, hc0]) <;> (try simp only [conc]))).mono fun e W' ⟨he, bel⟩ => ?_
  subst he
  exact ⟨_, rfl, _, _, _, [], _, [], hW', trodAll_mk1 (shut_bool Try.underlying4 _), (trodAll_cons_mk (Below.trod laidOut (by kernel_rfl) (of_decide_eq_true (by kernel_rfl)) k0 bel lt0) trodAll_mk0), rfl, bel.frame _, fun h => by cases h⟩
theorem fnExactCelTextProved : Rows.FnExactCelTextSaid :=
  OpenClaim.holds_of_wide 13 Try.f13 rfl rfl rfl rfl rfl rfl rfl ⟨rfl, rfl, rfl, rfl, rfl⟩ rfl rfl rfl rfl rfl (by kernel_rfl) Try.func13 (by kernel_rfl)
    (of_decide_eq_true (by kernel_rfl)) (by unfold Func.isWrapper; first | (rw [if_pos (by decide +kernel)]; kernel_rfl) | (rw [if_neg (by decide +kernel)]; exact ⟨rfl, rfl⟩))
    (fun os started H enc _ => fnExactCelTextLifted os started H enc)
end Go.Proofs.Ytheeehjgmifclaa

