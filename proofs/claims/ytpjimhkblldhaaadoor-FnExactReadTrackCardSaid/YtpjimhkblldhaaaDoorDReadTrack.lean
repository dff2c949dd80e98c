/- FnExactReadTrack: for all arguments the law's function returns true and writes nothing that was there: the given statement. -/
import Derived.Test.YtpjimhkblldhaaaDoorRt5
import Derived.Test.YtpjimhkblldhaaaDoorLD
import Derived.ChangeMaps5
import Derived.Test.YtpjimhkblldhaaaDoorRows
import Derived.Test.YtpjimhkblldhaaaDoorCards
import Derived.Test.YtpjimhkblldhaaaDoorTie
import Derived.LaidLaws
import Derived.Lay
import Derived.SevenTiedAt
import Derived.ProofKit
set_option linter.unusedVariables false
set_option linter.unusedSimpArgs false
set_option maxRecDepth 8000
set_option maxHeartbeats 4000000
namespace Go.Proofs.YtpjimhkblldhaaaDoor
open Go Go.Sx Go.ChangeShapes Go.WideShapes Go.ChangeAt Go.RowKit
theorem fnExactReadTrackOwn : ownKnob Tryd.prog.godebug = none := by kernel_rfl
theorem fnExactReadTrackStar : "*" ++ "errors.errorString" = "*errors.errorString" := by decide
theorem fnExactReadTrackRowName (u : TypeId) (h : Tryd.prog.typeName? 3 u = some "*errors.errorString") : u = 122 :=
  typeName_ptr_named (nm := "errors.errorString") (by rw [fnExactReadTrackStar]; kernel_rfl) (by kernel_rfl) (by decide) u (by rw [fnExactReadTrackStar]; exact h)
theorem fnExactReadTrackLaidOut : laidOutB Tryd.prog = true := by kernel_rfl
set_option maxRecDepth 100000 in
theorem fnExactReadTrackLifted (os : Os) (started : os.Started) (H : Type) (enc : TypeId × Value → H) :
    ReturnsInHanded {} Tryd.checked os 6 .any (fun w args => (Rows.fnExactReadTrackSpec.pre enc Tryd.prog Tryd.f6 [] false w args ∧ laidMetH Tryd.prog Rows.fnExactReadTrackRow.laid w) ∧ sizedMet enc Tryd.prog Tryd.f6 (OpenSpec.ofChange Rows.fnExactReadTrackSpec) false w args) (Rows.fnExactReadTrackSpec.post enc Tryd.prog Tryd.f6 false true false false) := by
  have laidOut := fnExactReadTrackLaidOut
  refine returnsInHanded_of_change_both (C := Tryd.checked) (X := fun w _ => laidMetH Tryd.prog Rows.fnExactReadTrackRow.laid w) (fun _ _ _ hh h => h.of_heap hh) fnExactReadTrackOwn started (by kernel_rfl) Tryd.func6
    (ChangeSpec.witness_shaped (enc := enc) (C := Tryd.checked) (os := os) (X := fun w _ => laidMetH Tryd.prog Rows.fnExactReadTrackRow.laid w) false (World.laidAll Tryd.prog os Rows.fnExactReadTrackRow.laid) #[.string ByteArray.empty] 8 (World.laidAll_os _ _ _)
      (World.shaped_of_ZipB (by kernel_rfl) (by kernel_rfl)) (by kernel_rfl) (by kernel_rfl) (by kernel_rfl)
      (by rw [MakeChecks.laidMetH_plain _ _ _ (by kernel_rfl)]; exact laidMet_laidAll _ (by kernel_rfl) (by kernel_rfl))) ?_
  intro W base args ds gs before hval0 hW hcnd hsz0 hlaid hshape _
  have hsz : (DataW.weightsEach Tryd.prog (Tryd.f6.params.toList ++ Rows.fnExactReadTrackSpec.plain.varTypes Tryd.prog) (ds ++ gs)).all (· ≤ reachBytes) = true := hsz0
  have hval : ∀ (j : Nat) t v, Tryd.f6.params[j]? = some t → args[j]? = some v → Value.okWide Tryd.prog W .any base t v := hval0
  have hW' := hW
  obtain ⟨p, q, hA0, hV, rfl, hfz, hnd⟩ := hW
  have hA : DataW.TrodAll enc Tryd.prog W 0 (fun _ => true) true Tryd.f6.params.toList args.toList ds p := hA0
  rw [Tryd.params6] at hA hval hsz
  obtain ⟨v0, vs0, d0, ds0, p0, q0, hargs, rfl, rfl, h0, r0⟩ := trodAll_cons hA
  obtain ⟨rfl, rfl, rfl⟩ := trodAll_nil r0
  obtain rfl : args = #[v0] := by cases args; simp_all
  obtain ⟨rfl, rfl⟩ := trodVars_none hV
  have k0 := h0
  have lt0 : ∀ x ∈ p0, x.block < W.heap.size := by obtain ⟨m, hm⟩ := k0; exact DataW.trod_lt m _ _ _ hm
  obtain ⟨a0, rfl, rfl, rfl, w0⟩ := Go.ChangeMaps.open_string Tryd.underlying9 (hval 0 9 v0 rfl rfl) h0
  rw [MakeChecks.laidMetH_plain _ _ _ (by kernel_rfl)] at hlaid
  have hpv0 := var_tab (P := Tryd.prog) (g := 1) (Lib.laidMet.reads hlaid (.tail _ (.tail _ (.head _)))) (k := .u64) (zs := Lib.pow10Tab) (by kernel_rfl) (by kernel_rfl) (by kernel_rfl) Tryd.underlying106 Tryd.underlying88 (by kernel_rfl) (by kernel_rfl)
  have hpin0 := fun (σ : Nat → Go.Sx.Loc) (hσ : σ 0 = ⟨1, 0, 0⟩) => open_pin (P := Tryd.prog) (cs := powC) 0 (by kernel_rfl) hpv0 (by unfold powC; rw [List.map_map]; rfl) (fun v hv => by obtain ⟨z, _, rfl⟩ := List.mem_map.1 hv; rfl) 0 σ hσ
  obtain ⟨adsyn, stsyn, hpv1, _, _, _⟩ := laid_sentinel (P := Tryd.prog) (g := 2) (laidMet.tail (laidMet.tail (laidMet.tail (laidMet.tail (laidMet.tail (hlaid)))))) (by kernel_rfl) (by kernel_rfl) Tryd.underlying74 (tp := 122) fnExactReadTrackRowName Tryd.underlying122 Tryd.underlying124 rfl rfl Tryd.underlying9 (by kernel_rfl) (by kernel_rfl)
  have hpin1 := fun (σ : Nat → Go.Sx.Loc) (hσ : σ 1 = ⟨2, 0, 0⟩) => open_pin (P := Tryd.prog) (cs := [.v (.iface 122 (.pointer (some adsyn)))]) 1 (vs := [.iface 122 (.pointer (some adsyn))]) (by kernel_rfl) hpv1 rfl (fun v hv => by obtain rfl := List.mem_singleton.1 hv; rfl) 0 σ hσ
  obtain ⟨adrng, strng, hpv2, _, _, _⟩ := laid_sentinel (P := Tryd.prog) (g := 3) (laidMet.tail (laidMet.tail (laidMet.tail (laidMet.tail (hlaid))))) (by kernel_rfl) (by kernel_rfl) Tryd.underlying74 (tp := 122) fnExactReadTrackRowName Tryd.underlying122 Tryd.underlying124 rfl rfl Tryd.underlying9 (by kernel_rfl) (by kernel_rfl)
  have hpin2 := fun (σ : Nat → Go.Sx.Loc) (hσ : σ 2 = ⟨3, 0, 0⟩) => open_pin (P := Tryd.prog) (cs := [.v (.iface 122 (.pointer (some adrng)))]) 2 (vs := [.iface 122 (.pointer (some adrng))]) (by kernel_rfl) hpv2 rfl (fun v hv => by obtain rfl := List.mem_singleton.1 hv; rfl) 0 σ hσ
  obtain ⟨mx, hpv3⟩ := var_int (P := Tryd.prog) (name := "internal/bytealg.MaxLen") (zero := #[.int .i64 0]) (g := 0) hshape (by kernel_rfl) (of_decide_eq_true (by kernel_rfl)) (by kernel_rfl) (by kernel_rfl) (by kernel_rfl) (by kernel_rfl) Tryd.underlying3
  have hpin3 := fun (σ : Nat → Go.Sx.Loc) (hσ : σ 3 = ⟨0, 0, 0⟩) => open_pin (P := Tryd.prog) (cs := [.v (.int .i64 mx)]) 3 (vs := [.int .i64 mx]) (by kernel_rfl) hpv3 rfl (fun v hv => by obtain rfl := List.mem_singleton.1 hv; rfl) 0 σ hσ
  let σ : Nat → Go.Sx.Loc := fun i => if i = 0 then ⟨1, 0, 0⟩ else if i = 1 then ⟨2, 0, 0⟩ else if i = 2 then ⟨3, 0, 0⟩ else if i = 3 then ⟨0, 0, 0⟩ else ⟨0, 0, 0⟩
  have sp0 : σ 0 = ⟨1, 0, 0⟩ := rfl
  have sp1 : σ 1 = ⟨2, 0, 0⟩ := rfl
  have sp2 : σ 2 = ⟨3, 0, 0⟩ := rfl
  have sp3 : σ 3 = ⟨0, 0, 0⟩ := rfl
  have hrel : HRel σ ([⟨powC, 0, .pin 1⟩, ⟨[.v (.iface 122 (.pointer (some adsyn)))], 0, .pin 2⟩, ⟨[.v (.iface 122 (.pointer (some adrng)))], 0, .pin 3⟩, ⟨[.v (.int .i64 mx)], 0, .pin 0⟩] : List Go.Sx.Blk) W := HRel_ro fun i b hi => by
    match i, hi with
    | 0, hi => obtain rfl : ⟨powC, 0, .pin 1⟩ = b := Option.some.inj hi; exact hpin0 σ sp0
    | 1, hi => obtain rfl : ⟨[.v (.iface 122 (.pointer (some adsyn)))], 0, .pin 2⟩ = b := Option.some.inj hi; exact hpin1 σ sp1
    | 2, hi => obtain rfl : ⟨[.v (.iface 122 (.pointer (some adrng)))], 0, .pin 3⟩ = b := Option.some.inj hi; exact hpin2 σ sp2
    | 3, hi => obtain rfl : ⟨[.v (.int .i64 mx)], 0, .pin 0⟩ = b := Option.some.inj hi; exact hpin3 σ sp3
    | i + 4, hi => exact absurd hi (by simp)
  have hro : ∀ b ∈ ([⟨powC, 0, .pin 1⟩, ⟨[.v (.iface 122 (.pointer (some adsyn)))], 0, .pin 2⟩, ⟨[.v (.iface 122 (.pointer (some adrng)))], 0, .pin 3⟩, ⟨[.v (.int .i64 mx)], 0, .pin 0⟩] : List Go.Sx.Blk), b.k.mut = false := fun b hb => by
    obtain ⟨i, hi⟩ := List.getElem?_of_mem hb
    match i, hi with
    | 0, hi => obtain rfl : ⟨powC, 0, .pin 1⟩ = b := Option.some.inj hi; rfl
    | 1, hi => obtain rfl : ⟨[.v (.iface 122 (.pointer (some adsyn)))], 0, .pin 2⟩ = b := Option.some.inj hi; rfl
    | 2, hi => obtain rfl : ⟨[.v (.iface 122 (.pointer (some adrng)))], 0, .pin 3⟩ = b := Option.some.inj hi; rfl
    | 3, hi => obtain rfl : ⟨[.v (.int .i64 mx)], 0, .pin 0⟩ = b := Option.some.inj hi; rfl
    | i + 4, hi => exact absurd hi (by simp)
  (try clear hA0); (try clear hval0); (try clear hsz0)
  refine (calls_of_cal (H := ([⟨powC, 0, .pin 1⟩, ⟨[.v (.iface 122 (.pointer (some adsyn)))], 0, .pin 2⟩, ⟨[.v (.iface 122 (.pointer (some adrng)))], 0, .pin 3⟩, ⟨[.v (.int .i64 mx)], 0, .pin 0⟩] : List Go.Sx.Blk)) (args := [.v (.string a0)]) (σ := σ) (lawReadTrack ⟨⟨rfl⟩, ⟨_, rfl, .inr ⟨_, _, rfl⟩⟩, ⟨_, rfl, .inr ⟨_, _, rfl⟩⟩, ⟨_, rfl⟩⟩) (fun v H' h => h.1) hrel (by simp [go_sem, ]) hro (by (try simp only [concs]) <;> (try simp only [conc]))).mono fun e W' ⟨he, bel⟩ => ?_
  subst he
  exact ⟨_, rfl, _, _, _, [], _, [], hW', trodAll_mk1 (shut_bool Tryd.underlying4 _), (trodAll_cons_mk (Below.trod laidOut (by kernel_rfl) (of_decide_eq_true (by kernel_rfl)) k0 bel lt0) trodAll_mk0), rfl, bel.frame _, fun h => by cases h⟩
theorem fnExactReadTrackRow : Rows.FnExactReadTrackSaid :=
  OpenClaim.holds_of_wide 6 Tryd.f6 rfl rfl rfl rfl rfl rfl rfl ⟨rfl, rfl, rfl, rfl, rfl⟩ rfl rfl rfl rfl rfl (by kernel_rfl) Tryd.func6 (by kernel_rfl)
    (of_decide_eq_true (by kernel_rfl)) (by unfold Func.isWrapper; first | (rw [if_pos (by decide +kernel)]; kernel_rfl) | (rw [if_neg (by decide +kernel)]; exact ⟨rfl, rfl⟩))
    (fun os started H enc _ => fnExactReadTrackLifted os started H enc)
theorem fnExactReadTrackProved : Rows.FnExactReadTrackCardSaid :=
  Claim7.holds_tied_plain_at .later [] [.data, .data, .data, .data, .sentinel, .sentinel, .pinned] true (true, "9d9823ad5fd7178ac879168412a5c0ccc7d31ddba9d304e6cdafc3636b96f496") true fnExactReadTrackRow (fun _ h => by cases h) (by kernel_rfl) (fun _ h => by cases h) fnExactReadTrack_row_tie rfl ⟨rfl, rfl⟩ (by kernel_rfl) rfl
    (fun f fn hf hfn => by
      obtain rfl : f = 6 := Option.some.inj ((show Tryd.prog.funcNamed "loop.example/g01340/laws.FnExactReadTrack" = some 6 by kernel_rfl).symm.trans hf) |>.symm
      obtain rfl : fn = Tryd.f6 := (Option.some.inj (Tryd.func6.symm.trans hfn)).symm
      exact ⟨by kernel_rfl, fun j t ht => by
        rw [Tryd.params6] at ht
        have hm : t ∈ [9] := by simpa using Array.mem_of_getElem? ht
        have hall : ([9].all fun u => !Tryd.prog.wantsStandIn u) = true := by kernel_rfl
        exact (show Tryd.prog.wantsStandIn t = false by simpa using List.all_eq_true.1 hall t hm)⟩)
    (by kernel_rfl)
end Go.Proofs.YtpjimhkblldhaaaDoor


