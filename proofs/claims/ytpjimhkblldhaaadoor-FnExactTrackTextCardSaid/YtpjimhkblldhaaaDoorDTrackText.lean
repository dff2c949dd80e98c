/- FnExactTrackText: for all arguments the law's function returns true and writes nothing that was there: the given statement. -/
import Derived.Test.YtpjimhkblldhaaaDoorTt3
import Derived.Test.YtpjimhkblldhaaaDoorLD
import Derived.Test.YtpjimhkblldhaaaDoorRows
import Derived.Test.YtpjimhkblldhaaaDoorCards
import Derived.Test.YtpjimhkblldhaaaDoorTie
import Derived.LaidLaws
import Derived.Lay
import Derived.SevenTiedAt
import Derived.ProofKit
set_option linter.unusedVariables false
set_option linter.unusedSimpArgs false
set_option maxRecDepth 8000
set_option maxHeartbeats 4000000
namespace Go.Proofs.YtpjimhkblldhaaaDoor
open Go Go.Sx Go.ChangeShapes Go.WideShapes Go.ChangeAt Go.RowKit
theorem fnExactTrackTextOwn : ownKnob Tryd.prog.godebug = none := by kernel_rfl
theorem fnExactTrackTextLaidOut : laidOutB Tryd.prog = true := by kernel_rfl
set_option maxRecDepth 100000 in
theorem fnExactTrackTextLifted (os : Os) (started : os.Started) (H : Type) (enc : TypeId × Value → H) :
    ReturnsInHanded {} Tryd.checked os 4 .any (fun w args => (Rows.fnExactTrackTextSpec.pre enc Tryd.prog Tryd.f4 [] false w args ∧ laidMetH Tryd.prog Rows.fnExactTrackTextRow.laid w) ∧ sizedMet enc Tryd.prog Tryd.f4 (OpenSpec.ofChange Rows.fnExactTrackTextSpec) false w args) (Rows.fnExactTrackTextSpec.post enc Tryd.prog Tryd.f4 false true false false) := by
  have laidOut := fnExactTrackTextLaidOut
  refine returnsInHanded_of_change_both (C := Tryd.checked) (X := fun w _ => laidMetH Tryd.prog Rows.fnExactTrackTextRow.laid w) (fun _ _ _ hh h => h.of_heap hh) fnExactTrackTextOwn started (by kernel_rfl) Tryd.func4
    (ChangeSpec.witness_shaped (enc := enc) (C := Tryd.checked) (os := os) (X := fun w _ => laidMetH Tryd.prog Rows.fnExactTrackTextRow.laid w) false (World.laidAll Tryd.prog os Rows.fnExactTrackTextRow.laid) #[.slice none 0 0] 8 (World.laidAll_os _ _ _)
      (World.shaped_of_ZipB (by kernel_rfl) (by kernel_rfl)) (by kernel_rfl) (by kernel_rfl) (by kernel_rfl)
      (by rw [MakeChecks.laidMetH_plain _ _ _ (by kernel_rfl)]; exact laidMet_laidAll _ (by kernel_rfl) (by kernel_rfl))) ?_
  intro W base args ds gs before hval0 hW hcnd hsz0 hlaid hshape _
  have hsz : (DataW.weightsEach Tryd.prog (Tryd.f4.params.toList ++ Rows.fnExactTrackTextSpec.plain.varTypes Tryd.prog) (ds ++ gs)).all (· ≤ reachBytes) = true := hsz0
  have hval : ∀ (j : Nat) t v, Tryd.f4.params[j]? = some t → args[j]? = some v → Value.okWide Tryd.prog W .any base t v := hval0
  have hW' := hW
  obtain ⟨p, q, hA0, hV, rfl, hfz, hnd⟩ := hW
  have hA : DataW.TrodAll enc Tryd.prog W 0 (fun _ => true) true Tryd.f4.params.toList args.toList ds p := hA0
  rw [Tryd.params4] at hA hval hsz
  obtain ⟨v0, vs0, d0, ds0, p0, q0, hargs, rfl, rfl, h0, r0⟩ := trodAll_cons hA
  obtain ⟨rfl, rfl, rfl⟩ := trodAll_nil r0
  obtain rfl : args = #[v0] := by cases args; simp_all
  obtain ⟨rfl, rfl⟩ := trodVars_none hV
  have k0 := h0
  have lt0 : ∀ x ∈ p0, x.block < W.heap.size := by obtain ⟨m, hm⟩ := k0; exact DataW.trod_lt m _ _ _ hm
  obtain ⟨loc0, b0, x0, cs0, hx0, hb0, hsl0, hcs0, hlt0, m0⟩ := open_slv (ks := [.i .i16, .i .i8, .i .i8]) 1 Tryd.underlying27 (by kernel_rfl) (by kernel_rfl) (hval 0 27 v0 rfl rfl) h0
  obtain ⟨l0, hcl0, f0⟩ := keys_of hcs0
  have m0 : l0.length ≤ 9223372036854775807 := by have e := congrArg List.length hcl0; rw [List.length_map] at e; rw [← e]; exact m0
  rw [MakeChecks.laidMetH_plain _ _ _ (by kernel_rfl)] at hlaid
  have hpv0 := var_tab (P := Tryd.prog) (g := 1) (Lib.laidMet.reads hlaid (.tail _ (.tail _ (.head _)))) (k := .u64) (zs := Lib.pow10Tab) (by kernel_rfl) (by kernel_rfl) (by kernel_rfl) Tryd.underlying106 Tryd.underlying88 (by kernel_rfl) (by kernel_rfl)
  have hpin0 := fun (σ : Nat → Go.Sx.Loc) (hσ : σ 0 = ⟨1, 0, 0⟩) => open_pin (P := Tryd.prog) (cs := powC) 0 (by kernel_rfl) hpv0 (by unfold powC; rw [List.map_map]; rfl) (fun v hv => by obtain ⟨z, _, rfl⟩ := List.mem_map.1 hv; rfl) 0 σ hσ
  let σ : Nat → Go.Sx.Loc := fun i => if i = 0 then ⟨1, 0, 0⟩ else if i = 1 then loc0 else ⟨0, 0, 0⟩
  have sp0 : σ 0 = ⟨1, 0, 0⟩ := rfl
  have s0 : σ 1 = loc0 := by simp [σ]
  have R0 := (hsl0 [⟨powC, 0, .pin 1⟩, b0] rfl).rd hcl0
  have hrel : HRel σ [⟨powC, 0, .pin 1⟩, b0] W := HRel_ro fun i b hi => by
    match i, hi with
    | 0, hi => obtain rfl : ⟨powC, 0, .pin 1⟩ = b := Option.some.inj hi; exact hpin0 σ sp0
    | 1, hi => obtain rfl : b0 = b := Option.some.inj hi; exact hb0 σ s0
    | i + 2, hi => exact absurd hi (by simp)
  have hro : ∀ b ∈ [⟨powC, 0, .pin 1⟩, b0], b.k.mut = false := fun b hb => by
    obtain ⟨i, hi⟩ := List.getElem?_of_mem hb
    match i, hi with
    | 0, hi => obtain rfl : ⟨powC, 0, .pin 1⟩ = b := Option.some.inj hi; rfl
    | 1, hi => obtain rfl : b0 = b := Option.some.inj hi; exact (hb0 σ s0).2.1
    | i + 2, hi => exact absurd hi (by simp)
  have L0 : V.lt 2 x0 := hlt0 _ (by omega)
  have C0 := hx0 σ s0
  have y00 := sized_slv hsz (j := 0) (t := 27) rfl rfl Tryd.underlying27 (B := 4) (by kernel_rfl) k0 C0 (hsl0 [⟨powC, 0, .pin 1⟩, b0] rfl)
  have y0 : l0.length * 4 ≤ 140737488351232 := by have e := congrArg List.length hcl0; rw [List.length_map] at e; rw [← e]; exact y00
  have q0 := (hsl0 [⟨powC, 0, .pin 1⟩, b0] rfl).kc
  clear hA0 hval0 hsz0
  refine (calls_of_cal (H := [⟨powC, 0, .pin 1⟩, b0]) (args := [x0]) (σ := σ) (lawTrackText ⟨rfl⟩ R0 (fun a ha => KyW.of (f0 a ha)) m0) (fun v H' h => h.1) hrel (by simp [go_sem, L0]) hro (by (try simp only [concs, C0]) <;> (try simp only [conc]))).mono fun e W' ⟨he, bel⟩ => ?_
  subst he
  exact ⟨_, rfl, _, _, _, [], _, [], hW', trodAll_mk1 (shut_bool Tryd.underlying4 _), (trodAll_cons_mk (Below.trod laidOut (by kernel_rfl) (of_decide_eq_true (by kernel_rfl)) k0 bel lt0) trodAll_mk0), rfl, bel.frame _, fun h => by cases h⟩
theorem fnExactTrackTextRow : Rows.FnExactTrackTextSaid :=
  OpenClaim.holds_of_wide 4 Tryd.f4 rfl rfl rfl rfl rfl rfl rfl ⟨rfl, rfl, rfl, rfl, rfl⟩ rfl rfl rfl rfl rfl (by kernel_rfl) Tryd.func4 (by kernel_rfl)
    (of_decide_eq_true (by kernel_rfl)) (by unfold Func.isWrapper; first | (rw [if_pos (by decide +kernel)]; kernel_rfl) | (rw [if_neg (by decide +kernel)]; exact ⟨rfl, rfl⟩))
    (fun os started H enc _ => fnExactTrackTextLifted os started H enc)
theorem fnExactTrackTextProved : Rows.FnExactTrackTextCardSaid :=
  Claim7.holds_tied_plain_at .later [] [.data, .data, .data] true (true, "9d9823ad5fd7178ac879168412a5c0ccc7d31ddba9d304e6cdafc3636b96f496") true fnExactTrackTextRow (fun _ h => by cases h) (by kernel_rfl) (fun _ h => by cases h) fnExactTrackText_row_tie rfl ⟨rfl, rfl⟩ (by kernel_rfl) rfl
    (fun f fn hf hfn => by
      obtain rfl : f = 4 := Option.some.inj ((show Tryd.prog.funcNamed "loop.example/g01340/laws.FnExactTrackText" = some 4 by kernel_rfl).symm.trans hf) |>.symm
      obtain rfl : fn = Tryd.f4 := (Option.some.inj (Tryd.func4.symm.trans hfn)).symm
      exact ⟨by kernel_rfl, fun j t ht => by
        rw [Tryd.params4] at ht
        have hm : t ∈ [27] := by simpa using Array.mem_of_getElem? ht
        have hall : ([27].all fun u => !Tryd.prog.wantsStandIn u) = true := by kernel_rfl
        exact (show Tryd.prog.wantsStandIn t = false by simpa using List.all_eq_true.1 hall t hm)⟩)
    (by kernel_rfl)
end Go.Proofs.YtpjimhkblldhaaaDoor


