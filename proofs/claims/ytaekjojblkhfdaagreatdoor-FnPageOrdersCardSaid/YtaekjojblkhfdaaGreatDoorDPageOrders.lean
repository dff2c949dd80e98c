/- FnPageOrders: for all arguments the law's function returns true and writes nothing that was there: the given statement. -/
import Derived.Test.YtaekjojblkhfdaaGreatDoorPq1
import Derived.Test.YtaekjojblkhfdaaGreatDoorLD
import Derived.Test.YtaekjojblkhfdaaGreatDoorRows
import Derived.Test.YtaekjojblkhfdaaGreatDoorCards
import Derived.Test.YtaekjojblkhfdaaGreatDoorTie
import Derived.LaidLaws
import Derived.Lay
import Derived.SevenTiedAt
import Derived.ProofKit
set_option linter.unusedVariables false
set_option linter.unusedSimpArgs false
set_option maxRecDepth 8000
set_option maxHeartbeats 16000000
namespace Go.Proofs.YtaekjojblkhfdaaGreatDoor
open Go Go.Sx Go.ChangeShapes Go.WideShapes Go.ChangeAt Go.RowKit
theorem fnPageOrdersOwn : ownKnob Tryz.prog.godebug = none := by kernel_rfl
theorem fnPageOrdersStar : "*" ++ "errors.errorString" = "*errors.errorString" := by decide
theorem fnPageOrdersRowName (u : TypeId) (h : Tryz.prog.typeName? 3 u = some "*errors.errorString") : u = 198 :=
  typeName_ptr_named (nm := "errors.errorString") (by rw [fnPageOrdersStar]; kernel_rfl) (by kernel_rfl) (by decide) u (by rw [fnPageOrdersStar]; exact h)
theorem fnPageOrdersLaidOut : laidOutB Tryz.prog = true := by kernel_rfl
set_option maxRecDepth 100000 in
theorem fnPageOrdersLifted (os : Os) (started : os.Started) (H : Type) (enc : TypeId × Value → H) :
    ReturnsInHanded {} Tryz.checked os 3 .any (fun w args => (Rows.fnPageOrdersSpec.pre enc Tryz.prog Tryz.f3 [] false w args ∧ laidMetH Tryz.prog Rows.fnPageOrdersRow.laid w) ∧ sizedMet enc Tryz.prog Tryz.f3 (OpenSpec.ofChange Rows.fnPageOrdersSpec) false w args) (Rows.fnPageOrdersSpec.post enc Tryz.prog Tryz.f3 false true false false) := by
  have laidOut := fnPageOrdersLaidOut
  refine returnsInHanded_of_change_both (C := Tryz.checked) (X := fun w _ => laidMetH Tryz.prog Rows.fnPageOrdersRow.laid w) (fun _ _ _ hh h => h.of_heap hh) fnPageOrdersOwn started (by kernel_rfl) Tryz.func3
    (ChangeSpec.witness_shaped (enc := enc) (C := Tryz.checked) (os := os) (X := fun w _ => laidMetH Tryz.prog Rows.fnPageOrdersRow.laid w) false (World.laidAll Tryz.prog os Rows.fnPageOrdersRow.laid) #[.slice none 0 0, .slice none 0 0] 8 (World.laidAll_os _ _ _)
      (World.shaped_of_ZipB (by kernel_rfl) (by kernel_rfl)) (by kernel_rfl) (by kernel_rfl) (by kernel_rfl)
      (by rw [MakeChecks.laidMetH_plain _ _ _ (by kernel_rfl)]; exact laidMet_laidAll _ (by kernel_rfl) (by kernel_rfl))) ?_
  intro W base args ds gs before hval0 hW hcnd hsz0 hlaid hshape _
  have hsz : (DataW.weightsEach Tryz.prog (Tryz.f3.params.toList ++ Rows.fnPageOrdersSpec.plain.varTypes Tryz.prog) (ds ++ gs)).all (· ≤ reachBytes) = true := hsz0
  have hval : ∀ (j : Nat) t v, Tryz.f3.params[j]? = some t → args[j]? = some v → Value.okWide Tryz.prog W .any base t v := hval0
  have hW' := hW
  obtain ⟨p, q, hA0, hV, rfl, hfz, hnd⟩ := hW
  have hA : DataW.TrodAll enc Tryz.prog W 0 (fun _ => true) true Tryz.f3.params.toList args.toList ds p := hA0
  rw [Tryz.params3] at hA hval hsz
  obtain ⟨v0, vs0, d0, ds0, p0, q0, hargs, rfl, rfl, h0, r0⟩ := trodAll_cons hA
  obtain ⟨v1, vs1, d1, ds1, p1, q1, rfl, rfl, rfl, h1, r1⟩ := trodAll_cons r0
  obtain ⟨rfl, rfl, rfl⟩ := trodAll_nil r1
  obtain rfl : args = #[v0, v1] := by cases args; simp_all
  obtain ⟨rfl, rfl⟩ := trodVars_none hV
  have k0 := h0
  have lt0 : ∀ x ∈ p0, x.block < W.heap.size := by obtain ⟨m, hm⟩ := k0; exact DataW.trod_lt m _ _ _ hm
  have k1 := h1
  have lt1 : ∀ x ∈ p1, x.block < W.heap.size := by obtain ⟨m, hm⟩ := k1; exact DataW.trod_lt m _ _ _ hm
  obtain ⟨loc0, b0, x0, cs0, hx0, hb0, hsl0, hcs0, hlt0, m0⟩ := open_slv (ks := [.i .u8]) 4 Tryz.underlying22 (by kernel_rfl) (by kernel_rfl) (hval 0 22 v0 rfl rfl) h0
  obtain ⟨l0, hcl0, f0⟩ := bytes_of hcs0
  have m0 : l0.length ≤ 9223372036854775807 := by have e := congrArg List.length hcl0; rw [List.length_map] at e; rw [← e]; exact m0
  obtain ⟨loc1, b1, x1, cs1, hx1, hb1, hsl1, hcs1, hlt1, m1⟩ := open_slv (ks := [.i .u8]) 5 Tryz.underlying22 (by kernel_rfl) (by kernel_rfl) (hval 1 22 v1 rfl rfl) h1
  obtain ⟨l1, hcl1, f1⟩ := bytes_of hcs1
  have m1 : l1.length ≤ 9223372036854775807 := by have e := congrArg List.length hcl1; rw [List.length_map] at e; rw [← e]; exact m1
  rw [MakeChecks.laidMetH_plain _ _ _ (by kernel_rfl)] at hlaid
  have hpv0 := var_tab (P := Tryz.prog) (g := 2) (Lib.laidMet.reads hlaid (.tail _ (.tail _ (.head _)))) (k := .u64) (zs := Lib.pow10Tab) (by kernel_rfl) (by kernel_rfl) (by kernel_rfl) Tryz.underlying181 Tryz.underlying101 (by kernel_rfl) (by kernel_rfl)
  have hpin0 := fun (σ : Nat → Go.Sx.Loc) (hσ : σ 0 = ⟨2, 0, 0⟩) => open_pin (P := Tryz.prog) (cs := powC) 0 (by kernel_rfl) hpv0 (by unfold powC; rw [List.map_map]; rfl) (fun v hv => by obtain ⟨z, _, rfl⟩ := List.mem_map.1 hv; rfl) 0 σ hσ
  obtain ⟨adsyn, stsyn, hpv1, _, _, _⟩ := laid_sentinel (P := Tryz.prog) (g := 0) (laidMet.tail (laidMet.tail (laidMet.tail (laidMet.tail (laidMet.tail (hlaid)))))) (by kernel_rfl) (by kernel_rfl) Tryz.underlying106 (tp := 198) fnPageOrdersRowName Tryz.underlying198 Tryz.underlying200 rfl rfl Tryz.underlying9 (by kernel_rfl) (by kernel_rfl)
  have hpin1 := fun (σ : Nat → Go.Sx.Loc) (hσ : σ 1 = ⟨0, 0, 0⟩) => open_pin (P := Tryz.prog) (cs := [.v (.iface 198 (.pointer (some adsyn)))]) 1 (vs := [.iface 198 (.pointer (some adsyn))]) (by kernel_rfl) hpv1 rfl (fun v hv => by obtain rfl := List.mem_singleton.1 hv; rfl) 0 σ hσ
  obtain ⟨adrng, strng, hpv2, _, _, _⟩ := laid_sentinel (P := Tryz.prog) (g := 1) (laidMet.tail (laidMet.tail (laidMet.tail (laidMet.tail (hlaid))))) (by kernel_rfl) (by kernel_rfl) Tryz.underlying106 (tp := 198) fnPageOrdersRowName Tryz.underlying198 Tryz.underlying200 rfl rfl Tryz.underlying9 (by kernel_rfl) (by kernel_rfl)
  have hpin2 := fun (σ : Nat → Go.Sx.Loc) (hσ : σ 2 = ⟨1, 0, 0⟩) => open_pin (P := Tryz.prog) (cs := [.v (.iface 198 (.pointer (some adrng)))]) 2 (vs := [.iface 198 (.pointer (some adrng))]) (by kernel_rfl) hpv2 rfl (fun v hv => by obtain rfl := List.mem_singleton.1 hv; rfl) 0 σ hσ
  obtain ⟨mx, hpv3⟩ := var_int (P := Tryz.prog) (name := "internal/bytealg.MaxLen") (zero := #[.int .i64 0]) (g := 3) hshape (by kernel_rfl) (of_decide_eq_true (by kernel_rfl)) (by kernel_rfl) (by kernel_rfl) (by kernel_rfl) (by kernel_rfl) Tryz.underlying3
  have hpin3 := fun (σ : Nat → Go.Sx.Loc) (hσ : σ 3 = ⟨3, 0, 0⟩) => open_pin (P := Tryz.prog) (cs := [.v (.int .i64 mx)]) 3 (vs := [.int .i64 mx]) (by kernel_rfl) hpv3 rfl (fun v hv => by obtain rfl := List.mem_singleton.1 hv; rfl) 0 σ hσ
  let σ : Nat → Go.Sx.Loc := fun i => if i = 0 then ⟨2, 0, 0⟩ else if i = 1 then ⟨0, 0, 0⟩ else if i = 2 then ⟨1, 0, 0⟩ else if i = 3 then ⟨3, 0, 0⟩ else if i = 4 then loc0 else if i = 5 then loc1 else ⟨0, 0, 0⟩
  have sp0 : σ 0 = ⟨2, 0, 0⟩ := rfl
  have sp1 : σ 1 = ⟨0, 0, 0⟩ := rfl
  have sp2 : σ 2 = ⟨1, 0, 0⟩ := rfl
  have sp3 : σ 3 = ⟨3, 0, 0⟩ := rfl
  have s0 : σ 4 = loc0 := by simp [σ]
  have R0 := (hsl0 ([⟨powC, 0, .pin 2⟩, ⟨[.v (.iface 198 (.pointer (some adsyn)))], 0, .pin 0⟩, ⟨[.v (.iface 198 (.pointer (some adrng)))], 0, .pin 1⟩, ⟨[.v (.int .i64 mx)], 0, .pin 3⟩, b0, b1] : List Go.Sx.Blk) rfl).rd hcl0
  have s1 : σ 5 = loc1 := by simp [σ]
  have R1 := (hsl1 ([⟨powC, 0, .pin 2⟩, ⟨[.v (.iface 198 (.pointer (some adsyn)))], 0, .pin 0⟩, ⟨[.v (.iface 198 (.pointer (some adrng)))], 0, .pin 1⟩, ⟨[.v (.int .i64 mx)], 0, .pin 3⟩, b0, b1] : List Go.Sx.Blk) rfl).rd hcl1
  have hrel : HRel σ ([⟨powC, 0, .pin 2⟩, ⟨[.v (.iface 198 (.pointer (some adsyn)))], 0, .pin 0⟩, ⟨[.v (.iface 198 (.pointer (some adrng)))], 0, .pin 1⟩, ⟨[.v (.int .i64 mx)], 0, .pin 3⟩, b0, b1] : List Go.Sx.Blk) W := HRel_ro fun i b hi => by
    match i, hi with
    | 0, hi => obtain rfl : ⟨powC, 0, .pin 2⟩ = b := Option.some.inj hi; exact hpin0 σ sp0
    | 1, hi => obtain rfl : ⟨[.v (.iface 198 (.pointer (some adsyn)))], 0, .pin 0⟩ = b := Option.some.inj hi; exact hpin1 σ sp1
    | 2, hi => obtain rfl : ⟨[.v (.iface 198 (.pointer (some adrng)))], 0, .pin 1⟩ = b := Option.some.inj hi; exact hpin2 σ sp2
    | 3, hi => obtain rfl : ⟨[.v (.int .i64 mx)], 0, .pin 3⟩ = b := Option.some.inj hi; exact hpin3 σ sp3
    | 4, hi => obtain rfl : b0 = b := Option.some.inj hi; exact hb0 σ s0
    | 5, hi => obtain rfl : b1 = b := Option.some.inj hi; exact hb1 σ s1
    | i + 6, hi => exact absurd hi (by simp)
  have hro : ∀ b ∈ ([⟨powC, 0, .pin 2⟩, ⟨[.v (.iface 198 (.pointer (some adsyn)))], 0, .pin 0⟩, ⟨[.v (.iface 198 (.pointer (some adrng)))], 0, .pin 1⟩, ⟨[.v (.int .i64 mx)], 0, .pin 3⟩, b0, b1] : List Go.Sx.Blk), b.k.mut = false := fun b hb => by
    obtain ⟨i, hi⟩ := List.getElem?_of_mem hb
    match i, hi with
    | 0, hi => obtain rfl : ⟨powC, 0, .pin 2⟩ = b := Option.some.inj hi; rfl
    | 1, hi => obtain rfl : ⟨[.v (.iface 198 (.pointer (some adsyn)))], 0, .pin 0⟩ = b := Option.some.inj hi; rfl
    | 2, hi => obtain rfl : ⟨[.v (.iface 198 (.pointer (some adrng)))], 0, .pin 1⟩ = b := Option.some.inj hi; rfl
    | 3, hi => obtain rfl : ⟨[.v (.int .i64 mx)], 0, .pin 3⟩ = b := Option.some.inj hi; rfl
    | 4, hi => obtain rfl : b0 = b := Option.some.inj hi; exact (hb0 σ s0).2.1
    | 5, hi => obtain rfl : b1 = b := Option.some.inj hi; exact (hb1 σ s1).2.1
    | i + 6, hi => exact absurd hi (by simp)
  have L0 : V.lt 6 x0 := hlt0 _ (by omega)
  have C0 := hx0 σ s0
  have L1 : V.lt 6 x1 := hlt1 _ (by omega)
  have C1 := hx1 σ s1
  have y00 := sized_slv hsz (j := 0) (t := 22) rfl rfl Tryz.underlying22 (B := 1) (by kernel_rfl) k0 C0 (hsl0 ([⟨powC, 0, .pin 2⟩, ⟨[.v (.iface 198 (.pointer (some adsyn)))], 0, .pin 0⟩, ⟨[.v (.iface 198 (.pointer (some adrng)))], 0, .pin 1⟩, ⟨[.v (.int .i64 mx)], 0, .pin 3⟩, b0, b1] : List Go.Sx.Blk) rfl)
  have y0 : l0.length * 1 ≤ 140737488351232 := by have e := congrArg List.length hcl0; rw [List.length_map] at e; rw [← e]; exact y00
  have q0 := (hsl0 ([⟨powC, 0, .pin 2⟩, ⟨[.v (.iface 198 (.pointer (some adsyn)))], 0, .pin 0⟩, ⟨[.v (.iface 198 (.pointer (some adrng)))], 0, .pin 1⟩, ⟨[.v (.int .i64 mx)], 0, .pin 3⟩, b0, b1] : List Go.Sx.Blk) rfl).kc
  have y10 := sized_slv hsz (j := 1) (t := 22) rfl rfl Tryz.underlying22 (B := 1) (by kernel_rfl) k1 C1 (hsl1 ([⟨powC, 0, .pin 2⟩, ⟨[.v (.iface 198 (.pointer (some adsyn)))], 0, .pin 0⟩, ⟨[.v (.iface 198 (.pointer (some adrng)))], 0, .pin 1⟩, ⟨[.v (.int .i64 mx)], 0, .pin 3⟩, b0, b1] : List Go.Sx.Blk) rfl)
  have y1 : l1.length * 1 ≤ 140737488351232 := by have e := congrArg List.length hcl1; rw [List.length_map] at e; rw [← e]; exact y10
  have q1 := (hsl1 ([⟨powC, 0, .pin 2⟩, ⟨[.v (.iface 198 (.pointer (some adsyn)))], 0, .pin 0⟩, ⟨[.v (.iface 198 (.pointer (some adrng)))], 0, .pin 1⟩, ⟨[.v (.int .i64 mx)], 0, .pin 3⟩, b0, b1] : List Go.Sx.Blk) rfl).kc
  (try clear hA0); (try clear hval0); (try clear hsz0)
  refine (calls_of_cal (H := ([⟨powC, 0, .pin 2⟩, ⟨[.v (.iface 198 (.pointer (some adsyn)))], 0, .pin 0⟩, ⟨[.v (.iface 198 (.pointer (some adrng)))], 0, .pin 1⟩, ⟨[.v (.int .i64 mx)], 0, .pin 3⟩, b0, b1] : List Go.Sx.Blk)) (args := [x0, x1]) (σ := σ) (lawFnPageOrders ⟨⟨rfl⟩, ⟨_, rfl, .inr ⟨_, _, rfl⟩⟩, ⟨_, rfl, .inr ⟨_, _, rfl⟩⟩, ⟨_, rfl⟩⟩ R0 R1 (B8.of f0) (B8.of f1)) (fun v H' h => h.1) hrel (by simp [go_sem, L0, L1]) hro (by (try simp only [concs, C0, C1]) <;> (try simp only [conc]))).mono fun e W' ⟨he, bel⟩ => ?_
  subst he
  exact ⟨_, rfl, _, _, _, [], _, [], hW', trodAll_mk1 (shut_bool Tryz.underlying4 _), (trodAll_cons_mk (Below.trod laidOut (by kernel_rfl) (of_decide_eq_true (by kernel_rfl)) k0 bel lt0) (trodAll_cons_mk (Below.trod laidOut (by kernel_rfl) (of_decide_eq_true (by kernel_rfl)) k1 bel lt1) trodAll_mk0)), rfl, bel.frame _, fun h => by cases h⟩
theorem fnPageOrdersRow : Rows.FnPageOrdersSaid :=
  OpenClaim.holds_of_wide 3 Tryz.f3 rfl rfl rfl rfl rfl rfl rfl ⟨rfl, rfl, rfl, rfl, rfl⟩ rfl rfl rfl rfl rfl (by kernel_rfl) Tryz.func3 (by kernel_rfl)
    (of_decide_eq_true (by kernel_rfl)) (by unfold Func.isWrapper; first | (rw [if_pos (by decide +kernel)]; kernel_rfl) | (rw [if_neg (by decide +kernel)]; exact ⟨rfl, rfl⟩))
    (fun os started H enc _ => fnPageOrdersLifted os started H enc)
theorem fnPageOrdersProved : Rows.FnPageOrdersCardSaid :=
  Claim7.holds_tied_plain_at .later [] [.data, .data, .data, .data, .sentinel, .sentinel, .pinned] true (true, "64277116183184feb45a624ea27e1d37dfa68b5fa69f521eaa3f98f190b843fd") true fnPageOrdersRow (fun _ h => by cases h) (by kernel_rfl) (fun _ h => by cases h) fnPageOrders_row_tie rfl ⟨rfl, rfl⟩ (by kernel_rfl) rfl
    (fun f fn hf hfn => by
      obtain rfl : f = 3 := Option.some.inj ((show Tryz.prog.funcNamed "loop.example/g01340/laws.FnPageOrders" = some 3 by kernel_rfl).symm.trans hf) |>.symm
      obtain rfl : fn = Tryz.f3 := (Option.some.inj (Tryz.func3.symm.trans hfn)).symm
      exact ⟨by kernel_rfl, fun j t ht => by
        rw [Tryz.params3] at ht
        have hm : t ∈ [22, 22] := by simpa using Array.mem_of_getElem? ht
        have hall : ([22, 22].all fun u => !Tryz.prog.wantsStandIn u) = true := by kernel_rfl
        exact (show Tryz.prog.wantsStandIn t = false by simpa using List.all_eq_true.1 hall t hm)⟩)
    (by kernel_rfl)
end Go.Proofs.YtaekjojblkhfdaaGreatDoor
