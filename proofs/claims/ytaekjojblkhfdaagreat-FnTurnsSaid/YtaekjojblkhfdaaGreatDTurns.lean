/- FnTurns: for all arguments the law's function returns true and writes nothing that was there: the given statement. -/
import Derived.Test.YtaekjojblkhfdaaGreatFw1
import Derived.Test.YtaekjojblkhfdaaGreatLD
import Derived.Test.YtaekjojblkhfdaaGreatRows
set_option linter.unusedVariables false
set_option linter.unusedSimpArgs false
set_option maxRecDepth 8000
set_option maxHeartbeats 16000000
namespace Go.Proofs.YtaekjojblkhfdaaGreat
open Go Go.Sx Go.ChangeShapes Go.WideShapes Go.ChangeAt Go.RowKit
theorem fnTurnsOwn : ownKnob Tryz.prog.godebug = none := by kernel_rfl
theorem fnTurnsLaidOut : laidOutB Tryz.prog = true := by kernel_rfl
set_option maxRecDepth 100000 in
theorem fnTurnsLifted (os : Os) (started : os.Started) (H : Type) (enc : TypeId × Value → H) :
    ReturnsInHanded {} Tryz.checked os 3 .any (Rows.fnTurnsSpec.pre6 enc Tryz.prog Tryz.f3 Rows.fnTurnsRow.domain false) (Rows.fnTurnsSpec.post enc Tryz.prog Tryz.f3 false true false false) := by
  have laidOut := fnTurnsLaidOut
  refine returnsInHanded_of_change_sized (C := Tryz.checked) fnTurnsOwn started (by kernel_rfl) Tryz.func3
    (ChangeSpec.witness6 (enc := enc) (C := Tryz.checked) false ⟨#[], #[.slice none 0 0, .slice none 0 0], []⟩ 8 (by kernel_rfl) (by kernel_rfl) (by kernel_rfl) (by kernel_rfl)) ?_
  intro W base args ds gs before hval0 hW hcnd hsz0 _
  have hsz : (DataW.weightsEach Tryz.prog (Tryz.f3.params.toList ++ Rows.fnTurnsSpec.plain.varTypes Tryz.prog) (ds ++ gs)).all (· ≤ reachBytes) = true := hsz0
  have hval : ∀ (j : Nat) t v, Tryz.f3.params[j]? = some t → args[j]? = some v → Value.okWide Tryz.prog W .any base t v := hval0
  have hW' := hW
  obtain ⟨p, q, hA0, hV, rfl, hfz, hnd⟩ := hW
  have hA : DataW.TrodAll enc Tryz.prog W 0 (fun _ => true) true Tryz.f3.params.toList args.toList ds p := hA0
  rw [Tryz.params3] at hA hval hsz
  obtain ⟨v0, vs0, d0, ds0, p0, q0, hargs, rfl, rfl, h0, r0⟩ := trodAll_cons hA
  obtain ⟨v1, vs1, d1, ds1, p1, q1, rfl, rfl, rfl, h1, r1⟩ := trodAll_cons r0
  obtain ⟨rfl, rfl, rfl⟩ := trodAll_nil r1
  obtain rfl : args = #[v0, v1] := by cases args; simp_all
  obtain ⟨rfl, rfl⟩ := trodVars_none hV
  have k0 := h0
  have lt0 : ∀ x ∈ p0, x.block < W.heap.size := by obtain ⟨m, hm⟩ := k0; exact DataW.trod_lt m _ _ _ hm
  have k1 := h1
  have lt1 : ∀ x ∈ p1, x.block < W.heap.size := by obtain ⟨m, hm⟩ := k1; exact DataW.trod_lt m _ _ _ hm
  obtain ⟨loc0, b0, x0, cs0, hx0, hb0, hsl0, hcs0, hlt0, m0⟩ := open_slv (ks := [.i .u8]) 0 Tryz.underlying22 (by kernel_rfl) (by kernel_rfl) (hval 0 22 v0 rfl rfl) h0
  obtain ⟨l0, hcl0, f0⟩ := bytes_of hcs0
  have m0 : l0.length ≤ 9223372036854775807 := by have e := congrArg List.length hcl0; rw [List.length_map] at e; rw [← e]; exact m0
  obtain ⟨loc1, b1, x1, cs1, hx1, hb1, hsl1, hcs1, hlt1, m1⟩ := open_slv (ks := [.i .u8]) 1 Tryz.underlying22 (by kernel_rfl) (by kernel_rfl) (hval 1 22 v1 rfl rfl) h1
  obtain ⟨l1, hcl1, f1⟩ := bytes_of hcs1
  have m1 : l1.length ≤ 9223372036854775807 := by have e := congrArg List.length hcl1; rw [List.length_map] at e; rw [← e]; exact m1
  let σ : Nat → Go.Sx.Loc := fun i => if i = 0 then loc0 else if i = 1 then loc1 else ⟨0, 0, 0⟩
  have s0 : σ 0 = loc0 := rfl
  have R0 := (hsl0 [b0, b1] rfl).rd hcl0
  have s1 : σ 1 = loc1 := by simp [σ]
  have R1 := (hsl1 [b0, b1] rfl).rd hcl1
  have hrel : HRel σ [b0, b1] W := HRel_ro fun i b hi => by
    match i, hi with
    | 0, hi => obtain rfl : b0 = b := Option.some.inj hi; exact hb0 σ s0
    | 1, hi => obtain rfl : b1 = b := Option.some.inj hi; exact hb1 σ s1
    | i + 2, hi => exact absurd hi (by simp)
  have hro : ∀ b ∈ [b0, b1], b.k.mut = false := fun b hb => by
    obtain ⟨i, hi⟩ := List.getElem?_of_mem hb
    match i, hi with
    | 0, hi => obtain rfl : b0 = b := Option.some.inj hi; exact (hb0 σ s0).2.1
    | 1, hi => obtain rfl : b1 = b := Option.some.inj hi; exact (hb1 σ s1).2.1
    | i + 2, hi => exact absurd hi (by simp)
  have L0 : V.lt 2 x0 := hlt0 _ (by omega)
  have C0 := hx0 σ s0
  have L1 : V.lt 2 x1 := hlt1 _ (by omega)
  have C1 := hx1 σ s1
  have y00 := sized_slv hsz (j := 0) (t := 22) rfl rfl Tryz.underlying22 (B := 1) (by kernel_rfl) k0 C0 (hsl0 [b0, b1] rfl)
  have y0 : l0.length * 1 ≤ 140737488351232 := by have e := congrArg List.length hcl0; rw [List.length_map] at e; rw [← e]; exact y00
  have q0 := (hsl0 [b0, b1] rfl).kc
  have y10 := sized_slv hsz (j := 1) (t := 22) rfl rfl Tryz.underlying22 (B := 1) (by kernel_rfl) k1 C1 (hsl1 [b0, b1] rfl)
  have y1 : l1.length * 1 ≤ 140737488351232 := by have e := congrArg List.length hcl1; rw [List.length_map] at e; rw [← e]; exact y10
  have q1 := (hsl1 [b0, b1] rfl).kc
  (try clear hA0); (try clear hval0); (try clear hsz0)
  refine (calls_of_cal (H := [b0, b1]) (args := [x0, x1]) (σ := σ) (lawFnTurns R0 R1 (B8.of f0) (B8.of f1)) (fun v H' h => h.1) hrel (by simp [go_sem, L0, L1]) hro (by (try simp only [concs, C0, C1]) <;> (try simp only [conc]))).mono fun e W' ⟨he, bel⟩ => ?_
  subst he
  exact ⟨_, rfl, _, _, _, [], _, [], hW', trodAll_mk1 (shut_bool Tryz.underlying4 _), (trodAll_cons_mk (Below.trod laidOut (by kernel_rfl) (of_decide_eq_true (by kernel_rfl)) k0 bel lt0) (trodAll_cons_mk (Below.trod laidOut (by kernel_rfl) (of_decide_eq_true (by kernel_rfl)) k1 bel lt1) trodAll_mk0)), rfl, bel.frame _, fun h => by cases h⟩
theorem fnTurnsProved : Rows.FnTurnsSaid :=
  OpenClaim.holds_of_wide 3 Tryz.f3 rfl rfl rfl rfl rfl rfl rfl ⟨rfl, rfl, rfl, rfl, rfl⟩ rfl rfl rfl rfl rfl (by kernel_rfl) Tryz.func3 (by kernel_rfl)
    (of_decide_eq_true (by kernel_rfl)) (by unfold Func.isWrapper; first | (rw [if_pos (by decide +kernel)]; kernel_rfl) | (rw [if_neg (by decide +kernel)]; exact ⟨rfl, rfl⟩))
    (fun os started H enc _ => fnTurnsLifted os started H enc)
end Go.Proofs.YtaekjojblkhfdaaGreat
