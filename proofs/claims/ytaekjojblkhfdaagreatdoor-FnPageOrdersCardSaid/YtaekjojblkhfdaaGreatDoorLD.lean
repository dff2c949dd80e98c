/- A small symbolic layer over the model, part 4: the opening of arguments, slices, and plain laws on frames; it speaks of no one program. -/
import Derived.Test.YtaekjojblkhfdaaGreatDoorLC
import Derived.OpenShut
import Derived.ChangeArms
import Derived.Below
import Derived.Carry
import Derived.ShutString
import Derived.ChangeOld
import Derived.ProofKit
import Derived.Laws.BitsAllLaws
import Derived.Sort.OwnSortedInts
import Derived.SizedLaws
import Derived.Laws.Strings
import Derived.Lib.LaidU8
import Derived.Stop.LaidErr
import Derived.Shelf.Vars
set_option linter.unusedVariables false
set_option linter.unusedSimpArgs false
namespace Go.Sx
open Go.RowKit Go.ChangeShapes Go.WideShapes

def wfL (cs : List V) : Prop := ∀ c ∈ cs, ∀ k n, c = .v (.int k n) → (Lit.int k n).wf = true
theorem wfL_app {a b : List V} (h : wfL a) (h' : wfL b) : wfL (a ++ b) := fun c hc => by
  rcases List.mem_append.1 hc with hc | hc
  · exact h c hc
  · exact h' c hc
theorem wfL_nil : wfL [] := fun c hc => by cases hc

section
variable {H : Type} {enc : TypeId × Value → H} {P : Program} {w : World} {base : Nat} {sp : Nat → Bool} {held : Bool}

def FlatAt (enc : TypeId × Value → H) (P : Program) (w : World) (base : Nat) (sp : Nat → Bool) (held : Bool) (t : TypeId) (ks : List KD) : Prop :=
  ∀ (fuel : Nat) (cs : List Value) (x : DataW H × List MemPlace), DataW.trod enc P w base sp held fuel t cs = some x → okV ks (cs.map .v) = true ∧ wfL (cs.map .v)

theorem flat_items {e : TypeId} {l : List KD} (IH : FlatAt enc P w base sp held e l) (m : Nat) (z : Nat) (hz : z = l.length) : ∀ (n : Nat) (cs : List Value), cs.length = n * z →
    (∀ i, i < n → ∃ x, DataW.trod enc P w base sp held m e ((cs.drop (i * z)).take z) = some x) → okV (List.replicate n l).flatten (cs.map .v) = true ∧ wfL (cs.map .v)
  | 0, cs, hl, _ => by
    have : cs = [] := by simpa using hl
    subst this
    exact ⟨rfl, wfL_nil⟩
  | n + 1, cs, hl, h => by
    obtain ⟨x, hx⟩ := h 0 (by omega)
    simp only [Nat.zero_mul, List.drop_zero] at hx
    have h1 := IH _ _ _ hx
    rw [Nat.add_mul, Nat.one_mul] at hl
    have h2 := flat_items IH m z hz n (cs.drop z) (by rw [List.length_drop]; omega) fun i hi => by
      have := h (i + 1) (by omega)
      rw [List.drop_drop, Nat.add_comm z]
      rw [Nat.add_mul, Nat.one_mul] at this
      exact this
    have e1 : cs.map V.v = (cs.take z).map V.v ++ (cs.drop z).map V.v := by rw [← List.map_append, List.take_append_drop]
    rw [e1, List.replicate_succ, List.flatten_cons]
    exact ⟨okV_app h1.1 h2.1, wfL_app h1.2 h2.2⟩

theorem cellsOf_szq {t : TypeId} {n : Nat} (h : szq P t = some n) : P.cellsOf t = n := by
  unfold szq at h; unfold Program.cellsOf; rw [h]; rfl

theorem flat_fields {d : Nat} (IH : ∀ t ks, kndo P d t = some ks → FlatAt enc P w base sp held t ks) (m : Nat) (cs : List Value) : ∀ (fs : List Field) (off : Nat) (ks : List KD),
    fldsK P (kndo P d) fs off = some ks → (∀ f ∈ fs, ∃ x, DataW.trod enc P w base sp held m f.type ((cs.drop f.offset).take (P.cellsOf f.type)) = some x) →
    okV ks (((cs.drop off).take ks.length).map .v) = true ∧ wfL (((cs.drop off).take ks.length).map .v)
  | [], off, ks, hk, _ => by
    simp only [fldsK, Option.some.injEq] at hk; subst hk
    simp only [List.length_nil, List.take_zero, List.map_nil]
    exact ⟨rfl, wfL_nil⟩
  | f :: fs, off, ks, hk, h => by
    simp only [fldsK] at hk
    split at hk
    · rename_i l hl
      split at hk
      · rename_i hc
        simp only [Bool.and_eq_true, bne_iff_ne, ne_eq, beq_iff_eq] at hc
        obtain ⟨ls, hls, rfl⟩ := Option.map_eq_some_iff.1 hk
        obtain ⟨x, hx⟩ := h f (List.mem_cons_self ..)
        rw [hc.1.2, cellsOf_szq hc.2] at hx
        have h1 := IH _ _ hl _ _ _ hx
        have h2 := flat_fields IH m cs fs _ ls hls fun g hg => h g (List.mem_cons_of_mem _ hg)
        rw [List.length_append, List.take_add, List.map_append, List.drop_drop]
        exact ⟨okV_app h1.1 h2.1, wfL_app h1.2 h2.2⟩
      · cases hk
    · cases hk

theorem trod_flat : ∀ (d : Nat) (t : TypeId) (ks : List KD), kndo P d t = some ks → FlatAt enc P w base sp held t ks
  | 0, _, _, h => by cases h
  | d + 1, t, ks, h => by
    intro fuel cs x hx
    simp only [kndo] at h
    split at h
    · rename_i hu
      cases h
      cases fuel with
      | zero => simp [DataW.trod] at hx
      | succ m =>
        unfold DataW.trod at hx
        rw [hu] at hx
        split at hx <;> simp_all
        refine ⟨rfl, fun c hc k n e => ?_⟩
        simp at hc; subst hc; cases e
    · rename_i k hu
      cases h
      cases fuel with
      | zero => simp [DataW.trod] at hx
      | succ m =>
        unfold DataW.trod at hx
        rw [hu] at hx
        split at hx <;> simp_all
        obtain ⟨⟨rfl, hw⟩, _⟩ := hx
        refine ⟨by simp [okV], fun c hc k n e => ?_⟩
        simp at hc; subst hc; cases e; exact hw
    · rename_i n e hu
      obtain ⟨l, hl, h⟩ := Option.bind_eq_some_iff.1 h
      split at h
      · rename_i hc
        cases h
        simp only [Bool.and_eq_true, beq_iff_eq] at hc
        obtain ⟨xs, m, rfl, _, hlen, hxs, hi⟩ := DataW.trod_array hu hx
        rw [cellsOf_szq hc.2] at hlen
        refine flat_items (trod_flat d e l hl) m l.length rfl n cs hlen fun i hin => ?_
        have := hi i hin
        rw [cellsOf_szq hc.1] at this
        rw [this]
        exact ⟨_, List.getElem?_eq_getElem (by omega)⟩
      · cases h
    · rename_i fs hu
      split at h
      · cases h
      · obtain ⟨l, hl, h⟩ := Option.bind_eq_some_iff.1 h
        split at h
        · rename_i hc
          cases h
          simp only [beq_iff_eq] at hc
          obtain ⟨xs, m, rfl, _, hlen, hxs, hi⟩ := DataW.trod_struct hu hx
          rw [cellsOf_szq hc] at hlen
          have := flat_fields (fun t ks hk => trod_flat d t ks hk) m cs fs.toList 0 ks hl fun f hf => by
            obtain ⟨i, hi', hfi⟩ := List.mem_iff_getElem.1 hf
            have h2 : fs[i]? = some f := by rw [← hfi]; simp
            rw [hi i f h2]
            exact ⟨_, List.getElem?_eq_getElem (by rw [hxs]; simpa using hi')⟩
          rw [List.drop_zero, ← hlen, List.take_length] at this
          exact this
        · cases h
    · cases h
end

section
variable {H : Type} {enc : TypeId × Value → H} {P : Program} {w : World} {base : Nat} {sp : Nat → Bool} {held : Bool}
theorem concs_v (σ : Nat → Loc) (l : List Value) : concs σ (l.map .v) = l := by
  rw [concs_eq, List.map_map]
  have : (conc σ ∘ V.v) = id := by funext x; rfl
  rw [this]; simp

theorem open_slice {t e : TypeId} {ks : List KD} {v : Value} {d : DataW H} {ps : List MemPlace} {r : Reach} {b0 : Nat} (hu : P.underlying t = some (.slice e)) (hk : kndo P 20 e = some ks) (hs : szo P e = some ks.length)
    (hval : Value.okWide P w r b0 t v) (hd : DataW.Trod enc P w base (fun _ => true) held t v d ps) :
    v = .slice none 0 0 ∨ ∃ blk off len cap, ∃ cs : List (List V), v = .slice (some ⟨blk, off, none⟩) len cap ∧ blk < w.heap.size ∧ len ≤ cap ∧ cap ≤ maxLen ∧ cs.length = cap ∧ (∀ c ∈ cs, okV ks c = true ∧ wfL c ∧ ∃ l : List Value, c = l.map .v) ∧
      ∀ σ j u, (concs σ cs.flatten)[j]? = some u → w.cell? ⟨blk, off + j, none⟩ = some u := by
  obtain ⟨fuel, hf⟩ := hd
  obtain ⟨a, len, cap, rfl⟩ := okWide_slice hu hval
  have hz : P.cellsOf e = ks.length := by unfold szo at hs; unfold Program.cellsOf; rw [hs]; rfl
  rcases DataW.trod_slice hu hf with ⟨h1, _⟩ | ⟨x, l, c, elems, rest, m, _, h1, _, _, hlc, hcm, hel, hg, hsp, _⟩
  · left; simpa [Value.cells] using h1
  · right
    simp [Value.cells] at h1
    obtain ⟨rfl, rfl, rfl⟩ := h1
    simp only [Value.okWide, hu, Cell.okWide, Cell.ok] at hval
    obtain ⟨_, _, _, hspot, row, cells, hshape, _⟩ := hval
    obtain ⟨blk, off, spot⟩ := x
    simp only at hspot hshape
    subst hspot
    have hblk : blk < w.heap.size := by
      unfold World.shape? at hshape
      cases hh : w.heap[blk]? with
      | none => rw [hh] at hshape; simp at hshape
      | some o => exact (Array.getElem?_eq_some_iff.1 hh).1
    obtain ⟨hrest, hr⟩ := hsp rfl
    have each : ∀ i, i < cap → ∃ cv : List Value, w.cells? base (Addr.add ⟨blk, off, none⟩ (i * ks.length)) ks.length = some cv ∧ okV ks (cv.map .v) = true ∧ wfL (cv.map .v) := by
      intro i hi
      have get : ∃ y, (w.cells? base (Addr.add ⟨blk, off, none⟩ (i * ks.length)) ks.length).bind (DataW.trod enc P w base (fun _ => true) held m e) = some y := by
        by_cases hil : i < len
        · have := hg i hil
          rw [hz] at this
          rw [this]; exact ⟨_, List.getElem?_eq_getElem (by omega)⟩
        · have := hr (i - len) (by omega)
          rw [hz, show len + (i - len) = i by omega] at this
          rw [this]; exact ⟨_, List.getElem?_eq_getElem (by omega)⟩
      obtain ⟨y, hy⟩ := get
      obtain ⟨cv, hc, ht⟩ := Option.bind_eq_some_iff.1 hy
      have := trod_flat 20 e ks hk _ _ _ ht
      exact ⟨cv, hc, this.1, this.2⟩
    let C : Nat → List Value := fun i => (w.cells? base (Addr.add ⟨blk, off, none⟩ (i * ks.length)) ks.length).getD []
    have hC : ∀ i, i < cap → w.cells? base (Addr.add ⟨blk, off, none⟩ (i * ks.length)) ks.length = some (C i) ∧ okV ks ((C i).map .v) = true ∧ wfL ((C i).map .v) := by
      intro i hi
      obtain ⟨cv, h1, h2, h3⟩ := each i hi
      have : C i = cv := by show (w.cells? _ _ _).getD [] = cv; rw [h1]; rfl
      rw [this]; exact ⟨h1, h2, h3⟩
    refine ⟨blk, off, len, cap, (List.range cap).map fun i => (C i).map .v, rfl, hblk, hlc, hcm, by simp, fun c hc => ?_, fun σ j u hu => ?_⟩
    · obtain ⟨i, hi, rfl⟩ := List.mem_map.1 hc
      have := hC i (List.mem_range.1 hi)
      exact ⟨this.2.1, this.2.2, _, rfl⟩
    · have key : ∀ n, n ≤ cap → ∀ j u, (concs σ ((List.range n).map fun i => (C i).map V.v).flatten)[j]? = some u → w.cell? ⟨blk, off + j, none⟩ = some u := by
        intro n
        induction n with
        | zero => intro _ j u h; simp [concs] at h
        | succ n ih =>
          intro hn j u h
          have hlen : ∀ n, n ≤ cap → (concs σ ((List.range n).map fun i => (C i).map V.v).flatten).length = n * ks.length := by
            intro n
            induction n with
            | zero => intro _; simp [concs]
            | succ n ihn =>
              intro hn
              rw [List.range_succ, List.map_append, List.flatten_append, concs_append, List.length_append, ihn (by omega)]
              have := okV_len (hC n (by omega)).2.1
              simp only [List.map_cons, List.map_nil, List.flatten_cons, List.flatten_nil, List.append_nil, concs_v]
              rw [List.length_map] at this
              rw [this, Nat.add_mul, Nat.one_mul]
          rw [List.range_succ, List.map_append, List.flatten_append, concs_append] at h
          rcases Nat.lt_or_ge j (n * ks.length) with hj | hj
          · rw [List.getElem?_append_left (by rw [hlen n (by omega)]; exact hj)] at h
            exact ih (by omega) j u h
          · rw [List.getElem?_append_right (by rw [hlen n (by omega)]; exact hj), hlen n (by omega)] at h
            simp only [List.map_cons, List.map_nil, List.flatten_cons, List.flatten_nil, List.append_nil, concs_v] at h
            have hc := (hC n (by omega)).1
            unfold World.cells? at hc
            split at hc
            · have hl2 := (List.getElem?_eq_some_iff.1 h).1
              have hlc2 := okV_len (hC n (by omega)).2.1
              rw [List.length_map] at hlc2
              have hjz : j - n * ks.length < ks.length := by omega
              have := mapM_some_get hc (j - n * ks.length) (j - n * ks.length) (by simp [hjz])
              rw [h] at this
              have e : (Addr.add ⟨blk, off, none⟩ (n * ks.length)).add (j - n * ks.length) = ⟨blk, off + j, none⟩ := by
                rw [addr_add, addr_add]; congr 1; omega
              rw [e] at this
              exact this
            · cases hc
      exact key cap (Nat.le_refl _) j u hu
end

theorem calls_of_cal {P : Program} {f : FuncId} {args : List V} {H : List Blk} {σ : Nat → Loc} {w : World} {R : V → List Blk → Prop} (hc : Cal P f args H R) (hR : ∀ v H', R v H' → v = .v (.bool true)) (hrel : HRel σ H w) (hl : lts H.length args)
    (hro : ∀ b ∈ H, b.k.mut = false) {vs : Array Value} (hv : vs = (concs σ args).toArray) : Calls P f vs w fun e w' => e = .returned (.bool true) ∧ Below w.heap.size w w' := by
  subst hv
  refine (hc.2 σ w hrel hl).mono ?_
  rintro e w' ⟨v, H', σ', r, rfl, _, _, _, _, fr, _⟩
  rw [hR _ _ r]
  refine ⟨rfl, ⟨fr.os, fr.tape, fr.output, fr.size, fun k hk => fr.block k hk fun i b hb hm => ?_⟩⟩
  rw [hro b (List.mem_of_getElem? hb)] at hm
  cases hm
end Go.Sx
namespace Go.Sx
open Go.RowKit

theorem ret_at {P : Program} {x : Cx} {R : V → List Blk → Prop} {H H1 : List Blk} {sl : List V} {rs : List ResultVar} (hq : ∀ e s, fin P H.length rs R e s → x.Q e s) (e : Exit) (he : e = .ret ∨ e = .normal) (hn : H.length ≤ H1.length)
    (h : FK (fun v => R v H1) (resL P ⟨sl, H1⟩ rs)) : EK P x [] e ⟨sl, H1⟩ := by
  refine hq _ _ ?_
  unfold FK at h
  split at h
  · rename_i p vs hr
    rcases he with rfl | rfl <;> (simp only [fin, hr]; exact ⟨h.1, _, _, Drop.refl _ _ _ hn, h.2⟩)
  · exact h.elim
theorem Weak.cut {n0 : Nat} {sl : List V} {H L : List Blk} (hn : n0 ≤ H.length) (hl : lts H.length sl) (hw : HWf H) : Weak n0 ⟨sl, H ++ L⟩ ⟨sl, H⟩ := by
  intro E σ a w hE hr
  have get : ∀ (i : Nat) (b : Blk), H[i]? = some b → (H ++ L)[i]? = some b := fun i b hi => by
    rw [List.getElem?_append_left (List.getElem?_eq_some_iff.1 hi).1]; exact hi
  refine ⟨σ, ⟨hr.defers, hr.size, hr.slots, (lts_iff _ _).1 hl, ⟨fun i b hi => hr.heap.holds i b (get i b hi), fun i j bi bj hne hi hj => hr.heap.sep i j bi bj hne (get i bi hi) (get j bj hj), fun i b hi c hc => ⟨hw b (List.mem_of_getElem? hi) c hc, (hr.heap.wf i b (get i b hi) c hc).2⟩⟩, by rw [hE]; exact hn, hr.agree, hr.fr, fun i b hi hm => hr.new i b (get i b hi) hm⟩⟩
theorem Weak.both {n0 : Nat} {sl sl' : List V} {hp H L : List Blk} (e : hp = H ++ L) (h : lessL sl sl') (hn : n0 ≤ H.length) (hl : lts H.length sl') (hw : HWf H) : Weak n0 ⟨sl, hp⟩ ⟨sl', H⟩ := by
  subst e
  exact (Weak.slots h).trans (Weak.cut hn hl hw)
theorem HWf.app {H L : List Blk} (h : HWf H) (hl : ∀ b ∈ L, lts (H ++ L).length b.cells) : HWf (H ++ L) := by
  intro b hb c hc
  rcases List.mem_append.1 hb with hb | hb
  · exact V.lt_mono (by simp) _ (h b hb c hc)
  · exact (lts_iff _ _).1 (hl b hb) c hc
theorem HWf.one {H : List Blk} {b : Blk} (h : HWf H) (hl : lts (H.length + 1) b.cells) : HWf (H ++ [b]) := h.app fun c hc => by
  simp at hc; subst hc; simpa using hl
@[go_sem] theorem lt_p (m i o : Nat) : V.lt m (.p i o) = (i < m) := by simp [V.lt]
@[go_sem] theorem lt_s (m i o l : Nat) (c : Cap) : V.lt m (.s i o l c) = (i < m) := by simp [V.lt]
@[go_sem] theorem lt_e (m i o c l z : Nat) : V.lt m (.e i o c l z) = (i < m) := by simp [V.lt]
@[go_sem] theorem lt_any (m : Nat) : V.lt m .any = True := by simp [V.lt]
@[go_sem] theorem lt_nil (m : Nat) : V.lt m (.v (.slice none 0 0)) = True := eq_true rfl
theorem set_get {α : Type} {H : List α} {i : Nat} {b : α} (h : H[i]? = some b) : H.set i b = H := by
  apply List.ext_getElem?; intro j
  rw [List.getElem?_set]
  by_cases e : i = j
  · subst e
    rw [if_pos rfl, h]
    simp [(List.getElem?_eq_some_iff.1 h).1]
  · rw [if_neg e]
theorem cel_of_seg {cs l : List V} {o z j : Nat} (h : seg cs o z = l) (hj : j < z) : cel cs (o + j) = nth l j := by
  subst h; unfold cel seg; rw [nth_eq, nth_eq, List.getElem?_take, if_pos hj, List.getElem?_drop]
end Go.Sx
/- Frames of dots as rows of numbers: what the bits of rows say. Plain law: no program. -/
namespace Go.Sx

def R16 (f : Nat → Int) : Prop := ∀ j, j < 12 → 0 ≤ f j ∧ f j < 65536
def dot (f : Nat → Int) (x y : Nat) : Bool := (f y).toNat.testBit x
def placeB (x y : Int) : Bool := (decide (0 ≤ x) && decide (x ≤ 11)) && (decide (0 ≤ y) && decide (y ≤ 11))
theorem placeB_iff {x y : Int} : placeB x y = true ↔ (0 ≤ x ∧ x ≤ 11) ∧ (0 ≤ y ∧ y ≤ 11) := by simp [placeB]
def hasF (f : Nat → Int) (x y : Int) : Bool := placeB x y && dot f x.toNat y.toNat
theorem wrap_u64 {x : Int} (h : 0 ≤ x) (h2 : x < 18446744073709551616) : IntKind.u64.wrap x = x := by
  unfold IntKind.wrap
  simp only [IntKind.bits, IntKind.signed, Bool.false_and]
  simp; omega
theorem shr_dot {a x : Int} (ha : 0 ≤ a) (hx : 0 ≤ x) (hx2 : x ≤ 15) : decide ((a.fdiv (2 ^ (min (IntKind.u64.wrap x).toNat 16))).tmod 2 = 1) = a.toNat.testBit x.toNat := by
  rw [wrap_u64 hx (by omega), show min x.toNat 16 = x.toNat by omega]
  rw [Nat.testBit_eq_decide_div_mod_eq]
  congr 1
  have h1 : (a.fdiv (2 ^ x.toNat)) = ((a.toNat / 2 ^ x.toNat : Nat) : Int) := by
    rw [Int.fdiv_eq_ediv_of_nonneg _ (by exact_mod_cast Nat.zero_le (2 ^ x.toNat))]
    conv => lhs; rw [← Int.toNat_of_nonneg ha]
    norm_cast
  rw [h1]
  generalize a.toNat / 2 ^ x.toNat = q
  rw [Int.tmod_eq_emod_of_nonneg (Int.natCast_nonneg _)]
  apply propext
  omega
end Go.Sx
/- Frames of dots that are moved and grown. Plain law: no program. -/
namespace Go.Sx

def F12 (f : Nat → Int) : Prop := ∀ j, j < 12 → 0 ≤ f j ∧ f j ≤ 4095
theorem F12.r16 {f : Nat → Int} (h : F12 f) : R16 f := fun j hj => by have := h j hj; omega
def zeroF : Nat → Int := fun _ => 0
def dotsTo (f : Nat → Int) (n : Nat) : List Nat := (List.range n).filter fun k => dot f (k % 12) (k / 12)
def dotsF (f : Nat → Int) : List Nat := dotsTo f 144
theorem dotsTo_succ (f : Nat → Int) (n : Nat) : dotsTo f (n + 1) = dotsTo f n ++ (if dot f (n % 12) (n / 12) = true then [n] else []) := by
  unfold dotsTo; rw [List.range_succ, List.filter_append]; congr 1; simp only [List.filter_cons, List.filter_nil]
theorem dotsTo_len (f : Nat → Int) (n : Nat) : (dotsTo f n).length ≤ n := by
  unfold dotsTo; exact Nat.le_trans (List.length_filter_le _ _) (by simp)

end Go.Sx
namespace Go.Sx
open Go.RowKit Go.ChangeShapes Go.WideShapes

def SlV (H : List Blk) (v : V) (cs : List (List V)) : Prop :=
  (v = .v (.slice none 0 0) ∧ cs = []) ∨ ∃ i cap rest b, v = .s i 0 cs.length (.k cap) ∧ cs.length ≤ cap ∧ At H i 0 (cs.flatten ++ rest) b
theorem HRel_ro {σ : Nat → Loc} {H : List Blk} {w : World} (h : ∀ i b, H[i]? = some b → Holds σ w i b ∧ b.k.mut = false ∧ ∀ c ∈ b.cells, (∀ n, V.lt n c) ∧ c.one = true) : HRel σ H w :=
  ⟨fun i b hb => (h i b hb).1, fun i j bi bj _ _ hj _ hm => (by rw [(h j bj hj).2.1] at hm; cases hm), fun i b hb c hc => ⟨((h i b hb).2.2 c hc).1 _, ((h i b hb).2.2 c hc).2⟩⟩

theorem okV_one_cell : ∀ {ks : List KD} {cs : List V}, okV ks cs = true → ∀ {y : Value}, V.v y ∈ cs → y.oneCell' = true
  | [], [], _, _, hy => by cases hy
  | .i k :: r, .v (.int k' n) :: xs, h, y, hy => by
    simp only [okV, Bool.and_eq_true] at h
    rcases List.mem_cons.1 hy with e | e
    · cases e; rfl
    · exact okV_one_cell h.2 e
  | .b :: r, .v (.bool b) :: xs, h, y, hy => by
    simp only [okV] at h
    rcases List.mem_cons.1 hy with e | e
    · cases e; rfl
    · exact okV_one_cell h e
  | [], _ :: _, h, _, _ => by simp [okV] at h
  | .i k :: r, [], h, _, _ => by simp [okV] at h
  | .b :: r, [], h, _, _ => by simp [okV] at h

section
variable {H : Type} {enc : TypeId × Value → H} {P : Program} {w : World} {base : Nat} {held : Bool}
theorem open_slv {t e : TypeId} {ks : List KD} {v : Value} {d : DataW H} {ps : List MemPlace} {r : Reach} {b0 : Nat} (i : Nat) (hu : P.underlying t = some (.slice e)) (hk : kndo P 20 e = some ks) (hs : szo P e = some ks.length)
    (hval : Value.okWide P w r b0 t v) (hd : DataW.Trod enc P w base (fun _ => true) held t v d ps) :
    ∃ (loc : Loc) (b : Blk) (x : V) (cs : List (List V)), (∀ σ : Nat → Loc, σ i = loc → conc σ x = v) ∧ (∀ σ : Nat → Loc, σ i = loc → Holds σ w i b ∧ b.k.mut = false ∧ ∀ c ∈ b.cells, (∀ n, V.lt n c) ∧ c.one = true) ∧
      (∀ Hp : List Blk, Hp[i]? = some b → SlV Hp x cs) ∧ (∀ c ∈ cs, okV ks c = true ∧ wfL c) ∧ (∀ n, i < n → V.lt n x) ∧ cs.length ≤ maxLen := by
  rcases open_slice hu hk hs hval hd with rfl | ⟨blk, off, len, cap, cs, rfl, hblk, hle, hmax, hlen, hcs, hread⟩
  · refine ⟨⟨0, 0, 0⟩, deadB, .v (.slice none 0 0), [], fun _ _ => rfl, fun σ _ => ⟨trivial, rfl, fun c hc => (by simp [deadB] at hc)⟩, fun _ _ => .inl ⟨rfl, rfl⟩, fun c hc => (by cases hc), fun _ _ => rfl, Nat.zero_le _⟩
  · have hl : (cs.take len).length = len := by rw [List.length_take]; omega
    refine ⟨⟨blk, off, cap⟩, ⟨cs.flatten, e, .ro⟩, .s i 0 len (.k cap), cs.take len, fun σ hσ => ?_, fun σ hσ => ⟨?_, rfl, fun c hc => ?_⟩, fun Hp hp => .inr ⟨i, cap, (cs.drop len).flatten, ⟨cs.flatten, e, .ro⟩, by rw [hl], by rw [hl]; exact hle, ?_⟩, fun c hc => ⟨(hcs c (List.mem_of_mem_take hc)).1, (hcs c (List.mem_of_mem_take hc)).2.1⟩, fun n hn => hn, by rw [hl]; omega⟩
    · simp only [conc, hσ, Cap.val, Nat.add_zero]
    · unfold Holds
      simp only [hσ]
      exact ⟨hblk, fun j u hu => hread σ j u hu⟩
    · obtain ⟨l, hl2, hc2⟩ := List.mem_flatten.1 hc
      obtain ⟨vs, rfl⟩ := (hcs l hl2).2.2
      obtain ⟨y, hy, rfl⟩ := List.mem_map.1 hc2
      have hone : y.oneCell' = true := by
        have hok := (hcs _ hl2).1
        exact okV_one_cell hok hc2
      exact ⟨fun _ => hone, hone⟩
    · refine ⟨hp, rfl, ?_⟩
      show seg cs.flatten 0 _ = _
      have e1 : (cs.take len).flatten ++ (cs.drop len).flatten = cs.flatten := by rw [← List.flatten_append, List.take_append_drop]
      rw [e1]
      unfold seg; rw [List.drop_zero, List.take_length]
end
end Go.Sx
namespace Go.Sx
open Go.RowKit

section
variable {α : Type} {H L : List Blk} {v : V} {enc : α → List V} {l : List α} {i : Nat} {b : Blk} {cap : Nat} {rest : List V} {P : Program}
end
end Go.Sx
namespace Go.Sx
open Go.RowKit
/- Regions that draw, by their number. -/
section
variable {P : Program} {x : Cx} {k : List Kt} {l : List Oper} {s : St}
theorem WK_drawAt (id : Nat) (pre : List (List Nat)) (hc : chk ⟨l⟩ pre l.length = true) (h : MK P x k ⟨l⟩ [] 0 l pre [] s) : WK P x k (.region id ⟨l⟩ true) s := DK_all _ _ _ pre hc h
theorem WK_drawUp (id : Nat) (pre : List (List Nat)) (N : Nat) (hc : chk ⟨l⟩ pre N = true) (h : MK P x k ⟨l⟩ (l.drop N) 0 (l.take N) pre [] s) : WK P x k (.region id ⟨l⟩ true) s := DK_some _ _ _ pre N hc h
end
/- A slice of a slice in a region that draws. -/
def mkS' (P : Program) (x : Cx) (k : List Kt) (ops : Array Oper) (rest : List Oper) (i : Nat) (r : List Oper) (q : List (List Nat)) (p : List Nat) (d : Option Tmp) (L : List (Nat × LE)) (t : TypeId) (lo hi mx : Option V) (s : St) (v : V) : Prop :=
  match v.capKnown with
  | true => MR P x k ops rest i r q p d L s (slcV P t v lo hi mx)
  | false => ME P x k ops rest i r q p d L t lo hi mx s v
section
variable (P : Program) (x : Cx) (k : List Kt) (ops : Array Oper) (rest : List Oper) (i : Nat) (r : List Oper) (q : List (List Nat)) (p : List Nat) (d : Option Tmp) (L : List (Nat × LE)) (sl : List V) (hp : List Blk) (ty : TypeId) (pos : String) (af : Array Edge) (t : TypeId) (lo hi mx : Option V)
theorem MK_slice (a : Operand) (lo hi mx : Option Operand) : MK P x k ops rest i ({ dst := d, op := .slice t a lo hi mx, type := ty, pos := pos, after := af, guard := none } :: r) (p :: q) L ⟨sl, hp⟩ =
    mkS' P x k ops rest i r q p d L t (lo.map (ev sl)) (hi.map (ev sl)) (mx.map (ev sl)) ⟨sl, hp⟩ (ev sl a) := MK_slcK ..
theorem mkS_k (j off len c : Nat) : mkS' P x k ops rest i r q p d L t lo hi mx ⟨sl, hp⟩ (.s j off len (.k c)) = MR P x k ops rest i r q p d L ⟨sl, hp⟩ (sliceV P (fun _ _ => False) t (.s j off len (.k c)) lo hi mx) := rfl
theorem mkS_u (j off len c : Nat) : mkS' P x k ops rest i r q p d L t lo hi mx ⟨sl, hp⟩ (.s j off len (.u c)) = MD P x k ops rest i r q p d L j ⟨sl, hp⟩ ((sliceV P (reachTo hp (.s j off len (.u c))) t (.s j off len (.u c)) lo hi mx).map fun q => ((q.1 ∧ capOk hp (.s j off len (.u c))) ∧ j < hp.length, q.2)) := by
  show MD P x k ops rest i r q p d L j ⟨sl, hp⟩ ((slV P hp t (.s j off len (.u c)) lo hi mx).map fun q => (q.1 ∧ j < hp.length, q.2)) = _
  unfold slV; rw [Option.map_map]; rfl
end
attribute [go_sem] MK_slice mkS_k mkS_u
/- A slice held against nil. -/
def bnP (op : BinOp) (b : Bool) : Bool → Option (Prop × V)
  | true => match op with
    | .eql => some (True, .v (.bool b))
    | .neq => some (True, .v (.bool (!b)))
    | _ => none
  | false => none
@[go_sem] theorem bnP_eql (b : Bool) : bnP .eql b true = some (True, .v (.bool b)) := rfl
@[go_sem] theorem bnP_neq (b : Bool) : bnP .neq b true = some (True, .v (.bool (!b))) := rfl
theorem binNil_bnP (P : Program) (op : BinOp) (t : TypeId) (b : Bool) : binNil P op t b = bnP op b (slTy P t) := by
  unfold binNil bnP; cases slTy P t <;> cases op <;> rfl
@[go_sem] theorem binV_sn (P : Program) (op : BinOp) (t : TypeId) (i o l : Nat) (c : Cap) (a b : Nat) : binV P op t (.s i o l c) (.v (.slice none a b)) = bnP op false (slTy P t) := by
  rw [← binNil_bnP]; rfl
@[go_sem] theorem binV_nn (P : Program) (op : BinOp) (t : TypeId) (a b a' b' : Nat) : binV P op t (.v (.slice none a b)) (.v (.slice none a' b')) = bnP op true (slTy P t) := by
  rw [← binNil_bnP]; rfl

theorem At.len0 {H : List Blk} {i : Nat} {cs : List V} {b : Blk} (h : At H i 0 cs b) : cs.length ≤ b.cells.length := by
  have := congrArg List.length h.sg
  unfold seg at this
  simp at this
  omega
def Rd {α : Type} (H : List Blk) (v : V) (enc : α → List V) (l : List α) : Prop :=
  (v = .v (.slice none 0 0) ∧ l = []) ∨ ∃ i off c b, v = .s i off l.length c ∧ At H i off (l.flatMap enc) b ∧ off + (l.flatMap enc).length ≤ b.cells.length
section
variable {α : Type} {H L : List Blk} {v : V} {enc : α → List V} {l : List α} {P : Program}
theorem Rd.app (h : Rd H v enc l) : Rd (H ++ L) v enc l := by
  rcases h with h | ⟨i, off, c, b, h1, h2, h3⟩
  · exact .inl h
  · exact .inr ⟨i, off, c, b, h1, h2.app, h3⟩
theorem Rd.solid (h : Rd H v enc l) : V.solid v = true := by
  rcases h with ⟨h, _⟩ | ⟨i, off, c, b, h, _⟩ <;> rw [h] <;> rfl
theorem Rd.vlt (h : Rd H v enc l) {n : Nat} (hn : H.length ≤ n) : V.lt n v = True := by
  apply eq_true
  rcases h with ⟨h, _⟩ | ⟨i, off, c, b, h, ha, _⟩
  · rw [h]; exact rfl
  · rw [h]; exact Nat.lt_of_lt_of_le ha.lt hn
theorem Rd.noref (h : Rd H v enc l) {n : Nat} (hn : H.length ≤ n) : V.noref n v = true := by
  rcases h with ⟨h, _⟩ | ⟨i, off, c, b, h, ha, _⟩
  · rw [h]; rfl
  · rw [h]; have := ha.lt; unfold V.noref; simp; omega
theorem Rd.forget (h : Rd H v enc l) {n : Nat} (hn : H.length ≤ n) : Go.Sx.forget n v = v := by
  unfold Go.Sx.forget; rw [h.noref hn]; rfl
theorem Rd.lenV (h : Rd H v enc l) {t : TypeId} (ht : slTy P t = true) : lenV P t v = some (True, .v (.int .i64 l.length)) := by
  rcases h with ⟨h, hl⟩ | ⟨i, off, c, b, h, _⟩
  · rw [h, lenV_n _ _ _ _ ht, hl]; rfl
  · rw [h, lenV_s _ _ _ _ _ _ ht]
theorem Rd.row (h : Rd H v enc l) (hl : 0 < l.length) : ∃ i off c b, v = .s i off l.length c ∧ At H i off (l.flatMap enc) b := by
  rcases h with ⟨_, h⟩ | ⟨i, off, c, b, h1, h2, _⟩
  · rw [h] at hl; cases hl
  · exact ⟨i, off, c, b, h1, h2⟩
theorem Rd.full (h : Rd H v enc l) (hl : 0 < l.length) : ∃ i off c b, v = .s i off l.length c ∧ At H i off (l.flatMap enc) b ∧ off + (l.flatMap enc).length ≤ b.cells.length := by
  rcases h with ⟨_, h⟩ | h
  · rw [h] at hl; cases hl
  · exact h
theorem Rd.nil (H : List Blk) (enc : α → List V) : Rd H (.v (.slice none 0 0)) enc [] := .inl ⟨rfl, rfl⟩
theorem Rd.of {i : Nat} {c : Cap} {b : Blk} (h : At H i 0 (l.flatMap enc) b) : Rd H (.s i 0 l.length c) enc l := .inr ⟨i, 0, c, b, rfl, h, by have := h.len0; omega⟩
theorem Rd.ofl {i : Nat} {c : Cap} {b : Blk} {r : List α} (h : At H i 0 ((l ++ r).flatMap enc) b) : Rd H (.s i 0 l.length c) enc l := Rd.of (by rw [List.flatMap_append] at h; exact h.left)
theorem Rd.own {L : List Blk} {t : TypeId} {k : BK} {c : Cap} {m : Nat} (n : Nat) (h : L[n]? = some ⟨l.flatMap enc, t, k⟩) (hk : k.live = true) (hm : m = l.length) : Rd (H ++ L) (.s (H.length + n) 0 m c) enc l := by subst hm; exact Rd.of (At.mk' n h hk)
theorem Rd.own0 {L : List Blk} {t : TypeId} {k : BK} {c : Cap} {m : Nat} (h : L[0]? = some ⟨l.flatMap enc, t, k⟩) (hk : k.live = true) (hm : m = l.length) : Rd (H ++ L) (.s H.length 0 m c) enc l := by subst hm; exact Rd.of (At.mk' (H := H) (L := L) 0 h hk)
theorem Rd.fill {L : List Blk} {t : TypeId} {k : BK} {c : Cap} {m : Nat} {r : List α} (n : Nat) (h : L[n]? = some ⟨(l ++ r).flatMap enc, t, k⟩) (hk : k.live = true) (hm : m = l.length) : Rd (H ++ L) (.s (H.length + n) 0 m c) enc l := by subst hm; exact Rd.ofl (At.mk' n h hk)
end
/- Rows of rows. -/
section
variable {α : Type} (enc : α → List V) (z : Nat) (hz : ∀ x, (enc x).length = z)
include hz
theorem flat_set : ∀ (L : List α) (j : Nat) (x : α), j < L.length → wr (L.flatMap enc) (j * z) (enc x) = (L.set j x).flatMap enc
  | [], j, x, h => by cases h
  | a :: L, 0, x, _ => by
    simp only [List.flatMap_cons, Nat.zero_mul, List.set_cons_zero]
    unfold wr
    rw [List.take_zero, List.nil_append, Nat.zero_add, hz x, ← hz a, List.drop_left]
  | a :: L, j + 1, x, h => by
    have ih := flat_set L j x (by simpa using h)
    simp only [List.flatMap_cons, List.set_cons_succ]
    rw [← ih]
    unfold wr
    have e : (j + 1) * z = (enc a).length + j * z := by rw [hz, Nat.succ_mul, Nat.add_comm]
    rw [e, List.take_length_add_append, Nat.add_assoc, List.drop_length_add_append, List.append_assoc, List.append_assoc, List.append_assoc]
end
theorem zeros_flat {α : Type} (enc : α → List V) (x : α) (n : Nat) : zerosL (enc x) n = (List.replicate n x).flatMap enc := by
  unfold zerosL; rw [List.flatMap_replicate]
structure Flat {α : Type} (enc : α → List V) (z : Nat) : Prop where
  len : ∀ x, (enc x).length = z
  cell : ∀ x v, v ∈ enc x → ∃ y, v = .v y ∧ y.oneCell' = true
section
variable {α : Type} {enc : α → List V} {z : Nat}
theorem Flat.mem (h : Flat enc z) {l : List α} {v : V} (hv : v ∈ l.flatMap enc) : ∃ y, v = .v y ∧ y.oneCell' = true := by
  obtain ⟨x, _, hx⟩ := List.mem_flatMap.1 hv
  exact h.cell x v hx
theorem Flat.lts (h : Flat enc z) (m : Nat) (l : List α) : lts m (l.flatMap enc) = True := eq_true ((lts_iff _ _).2 fun v hv => by obtain ⟨y, rfl, hy⟩ := h.mem hv; exact hy)
theorem Flat.norefs (h : Flat enc z) (m : Nat) (l : List α) : norefs m (l.flatMap enc) = true := by
  rw [norefs_all]; exact List.all_eq_true.2 fun v hv => by obtain ⟨y, rfl, hy⟩ := h.mem hv; rfl
theorem Flat.flen (h : Flat enc z) (l : List α) : (l.flatMap enc).length = l.length * z := flat_len enc z h.len l
end
theorem flat_rowL (k : IntKind) (z : Nat) : Flat (rowL k z) z := ⟨fun x => rowL_length _ _ _, fun x v hv => by obtain ⟨j, _, rfl⟩ := rowL_mem _ _ _ hv; exact ⟨_, rfl, rfl⟩⟩
def i64C (x : Int) : List V := [.v (.int .i64 x)]
theorem flat_i64 : Flat i64C 1 := ⟨fun _ => rfl, fun x v hv => by simp [i64C] at hv; exact ⟨_, hv, rfl⟩⟩
theorem i64_row : ∀ l : List Int, l.flatMap i64C = rowL .i64 l.length (fun j => l[j]?.getD 0)
  | [] => rfl
  | a :: l => by rw [List.flatMap_cons, i64_row l, List.length_cons, rowL_cons]; rfl
theorem At.i64 {H : List Blk} {i off : Nat} {l : List Int} {b : Blk} (h : At H i off (l.flatMap i64C) b) {j : Nat} (hj : j < l.length) : Go.Sx.cel b.cells (off + j) = .v (.int .i64 l[j]) := by
  rw [i64_row] at h
  rw [At.cel h hj]; simp [hj]
theorem Weak.ren {n0 : Nat} {sl sl' : List V} {H H' : List Blk} (ρ : Nat → Nat) (h0 : ∀ i, i < n0 → ρ i = i) (hn : n0 ≤ H'.length)
    (inj : ∀ i j, i < H'.length → j < H'.length → ρ i = ρ j → i = j)
    (hb : ∀ (i : Nat) (b : Blk), H'[i]? = some b → ∃ b', H[ρ i]? = some b' ∧ b.elem = b'.elem ∧ b.k = b'.k ∧ (∀ σ : Nat → Loc, concs (fun j => σ (ρ j)) b.cells = concs σ b'.cells) ∧ ∀ c ∈ b.cells, V.lt H'.length c ∧ c.one = true)
    (hl : sl.length = sl'.length) (hs : ∀ (t : Nat) (v : V), sl'[t]? = some v → v = .any ∨ ∃ v', sl[t]? = some v' ∧ v' ≠ .any ∧ V.lt H'.length v ∧ ∀ σ : Nat → Loc, conc (fun j => σ (ρ j)) v = conc σ v') : Weak n0 ⟨sl, H⟩ ⟨sl', H'⟩ := by
  intro E σ a w hE h
  refine ⟨fun j => σ (ρ j), h.defers, ?_, fun t v hv => ?_, fun v hv => ?_, ⟨fun i b hi => ?_, fun i j bi bj hne hi hj l1 m2 => ?_, fun i b hi => (hb i b hi).choose_spec.2.2.2.2⟩, by rw [hE]; exact hn, fun i hi => ?_, h.fr, fun i b hi hm => ?_⟩
  · rw [h.size]; exact hl
  · rcases hs t v hv with e | ⟨v', e1, e2, _, e3⟩
    · exact .inl e
    · right; rw [e3 σ]; exact (h.slots t v' e1).resolve_left e2
  · obtain ⟨t, ht⟩ := List.getElem?_of_mem hv
    rcases hs t v ht with e | ⟨v', _, _, e, _⟩
    · rw [e]; exact trivial
    · exact e
  · obtain ⟨b', g1, g2, g3, g4, _⟩ := hb i b hi
    have := h.heap.holds _ _ g1
    unfold Holds at this ⊢
    have el : b.cells.length = b'.cells.length := by have := congrArg List.length (g4 σ); simpa [concs_length] using this
    rw [g3]
    rw [g4 σ, g2, el]
    exact this
  · obtain ⟨b1, g1, _, g3, _⟩ := hb i bi hi
    obtain ⟨b2, k1, _, k3, _⟩ := hb j bj hj
    refine h.heap.sep _ _ b1 b2 (fun e => hne (inj i j ?_ ?_ e)) g1 k1 (by rw [← g3]; exact l1) (by rw [← k3]; exact m2)
    · exact (List.getElem?_eq_some_iff.1 hi).1
    · exact (List.getElem?_eq_some_iff.1 hj).1
  · simp only [h0 i (by omega)]; exact h.agree i hi
  · obtain ⟨b', g1, _, g3, _⟩ := hb i b hi
    exact h.new _ b' g1 (by rw [← g3]; exact hm)
end Go.Sx
namespace Go.Sx
def idxL {α : Type} (p : α → Bool) (l : List α) : Int := match l.findIdx? p with | some j => j | none => -1
theorem idxL_at {α : Type} {p : α → Bool} {l : List α} {n : Nat} (hn : n < l.length) (hp : p l[n] = true) (hb : ∀ j (hj : j < l.length), j < n → p l[j] = false) : idxL p l = n := by
  unfold idxL
  have : l.findIdx? p = some n := by
    rw [List.findIdx?_eq_some_iff_getElem]
    exact ⟨hn, hp, fun j hj => by rw [hb j (by omega) hj]; decide⟩
  rw [this]
theorem idxL_none {α : Type} {p : α → Bool} {l : List α} (hb : ∀ j (hj : j < l.length), p l[j] = false) : idxL p l = -1 := by
  unfold idxL
  have : l.findIdx? p = none := by
    rw [List.findIdx?_eq_none_iff]
    intro x hx
    obtain ⟨j, hj, rfl⟩ := List.mem_iff_getElem.1 hx
    exact hb j hj
  rw [this]
theorem idxL_nonneg {α : Type} (p : α → Bool) (l : List α) : decide (0 ≤ idxL p l) = l.any p := by
  unfold idxL
  cases h : l.findIdx? p with
  | none =>
    rw [List.findIdx?_eq_none_iff] at h
    have : l.any p = false := List.any_eq_false.2 fun x hx => by rw [h x hx]; simp
    rw [this]; rfl
  | some j =>
    obtain ⟨hj, hp, _⟩ := List.findIdx?_eq_some_iff_getElem.1 h
    have : l.any p = true := List.any_eq_true.2 ⟨_, List.getElem_mem hj, hp⟩
    rw [this]; simp
theorem not_any_not {α : Type} (p : α → Bool) (l : List α) : (!l.any fun x => !p x) = l.all p := by
  rw [Bool.eq_iff_iff]; simp [List.any_eq_false]
end Go.Sx
namespace Go.Sx
theorem At.el {α : Type} {H : List Blk} {i off : Nat} {enc : α → List V} {z : Nat} {l : List α} {b : Blk} (h : At H i off (l.flatMap enc) b) (hz : ∀ x, (enc x).length = z) {j : Nat} (hj : j < l.length) : At H i (off + j * z) (enc l[j]) b :=
  ⟨h.get, h.live, by rw [hz]; exact h.elem enc z hz hj⟩
theorem At.all {α : Type} {H : List Blk} {i off : Nat} {enc : α → List V} {z : Nat} {l : List α} {b : Blk} (h : At H i off (l.flatMap enc) b) (hz : ∀ x, (enc x).length = z) : seg b.cells off (l.length * z) = l.flatMap enc := by
  have := h.sg
  rwa [flat_len enc z hz] at this
end Go.Sx
namespace Go.Sx
open Go.RowKit
theorem SlV.rd {α : Type} {H : List Blk} {v : V} {cs : List (List V)} (h : SlV H v cs) {enc : α → List V} {l : List α} (e : cs = l.map enc) : Rd H v enc l := by
  subst e
  rcases h with ⟨h1, h2⟩ | ⟨i, cap, rest, b, h1, h2, h3⟩
  · exact .inl ⟨h1, by simpa using h2⟩
  · rw [List.length_map] at h1
    rw [h1]
    exact Rd.of (by have := h3.left; rwa [← List.flatMap_def] at this)
theorem list_of {α β : Type} (f : α → β) (Q : α → Prop) : ∀ (cs : List β), (∀ c ∈ cs, ∃ x, c = f x ∧ Q x) → ∃ l : List α, cs = l.map f ∧ ∀ x ∈ l, Q x
  | [], _ => ⟨[], rfl, fun x hx => by cases hx⟩
  | c :: cs, h => by
    obtain ⟨x, rfl, hx⟩ := h c (List.mem_cons_self ..)
    obtain ⟨l, rfl, hl⟩ := list_of f Q cs fun c hc => h c (List.mem_cons_of_mem _ hc)
    exact ⟨x :: l, rfl, fun y hy => by
      rcases List.mem_cons.1 hy with e | hy
      · rw [e]; exact hx
      · exact hl y hy⟩
end Go.Sx
namespace Go.Sx
open Go.RowKit
/- Strings. -/
section
variable (P : Program) (t src : TypeId) (s s' : ByteArray) (kd : IntKind) (n : Int)
def lsP (s : ByteArray) : Option TypeDesc → Option (Prop × V)
  | some .string => some (True, .v (.int .i64 s.size))
  | _ => none
def ixsP (s : ByteArray) (n : Int) : Option TypeDesc → Option (Prop × V)
  | some .string => some (0 ≤ n ∧ n < s.size, .v (.int .u8 ((s.data.toList[n.toNat]?.getD 0).toNat : Int)))
  | _ => none
@[go_sem] theorem ixsP_some : ixsP s n (some .string) = some (0 ≤ n ∧ n < s.size, .v (.int .u8 ((s.data.toList[n.toNat]?.getD 0).toNat : Int))) := rfl
@[go_sem] theorem indexV_str : indexV P t (.v (.string s)) (.v (.int kd n)) = ixsP s n (P.underlying t) := rfl
@[go_sem] theorem binV_seql : binV P .eql t (.v (.string s)) (.v (.string s')) = some (True, .v (.bool (decide (s.toList = s'.toList)))) := rfl
end
section
variable {P : Program} {x : Cx} {k : List Kt} {ops : Array Oper} {rest r : List Oper} {i id : Nat} {q : List (List Nat)} {p : List Nat} {d : Option Tmp} {L : List (Nat × LE)} {s : St} {args : List V} {v : V}
theorem isSK (h : SK P x k ops r d args s v) : SK P x k ops r d args s v := h
theorem isMC (h : MC P x k ops rest i r q p d L args s v) : MC P x k ops rest i r q p d L args s v := h
theorem isWKr (h : WK P x k (.region id ops true) s) : WK P x k (.region id ops true) s := h
end
theorem Weak.keepN {n0 : Nat} {sl sl' : List V} {H L L' M : List Blk} (e : L = L' ++ M) (h : lessL sl sl') (hn : n0 ≤ (H ++ L').length) (hl : lts (H ++ L').length sl') (hw : HWf (H ++ L')) : Weak n0 ⟨sl, H ++ L⟩ ⟨sl', H ++ L'⟩ := by
  subst e
  exact Weak.both (H := H ++ L') (L := M) (by simp) h hn hl hw
theorem ret_one {P : Program} {x : Cx} {R : V → List Blk → Prop} {H L : List Blk} {sl : List V} {rs : List ResultVar} (hq : ∀ e s, fin P H.length rs R e s → x.Q e s) (hw : HWf H) (e : Exit) (he : e = .ret ∨ e = .normal)
    (k : Nat) {b : Blk} (hb : L[k]? = some b) (hbw : lts H.length b.cells) (v' : V) (hv' : v'.lt (H.length + 1))
    (h : FK (fun v => (∀ σ : Nat → Loc, conc (upσ σ H.length (σ (H.length + k))) v' = conc σ v) ∧ R v' (H ++ [b])) (resL P ⟨sl, H ++ L⟩ rs)) : EK P x [] e ⟨sl, H ++ L⟩ := by
  rw [EK_nil]
  refine hq e _ ?_
  have : match resL P ⟨sl, H ++ L⟩ rs with | some (p, vs) => p ∧ ∃ v' H', Drop H.length (retV vs) (H ++ L) v' H' ∧ R v' H' | none => False := by
    cases hr : resL P ⟨sl, H ++ L⟩ rs with
    | none => rw [hr] at h; exact h.elim
    | some q =>
      obtain ⟨p, vs⟩ := q
      rw [hr] at h
      exact ⟨h.1, v', H ++ [b], Drop.one H.length (retV vs) v' H L k b rfl hb hv' h.2.1 (fun b hb c hc => hw b hb c hc) (fun c hc => (lts_iff _ _).1 hbw c hc), h.2.2⟩
  rcases he with rfl | rfl <;> exact this
end Go.Sx
namespace Go.Sx
open Go.RowKit
section
variable {α : Type} (a b : α) (p : Prop) [Decidable p]
@[go_sem] theorem ite_fand : (if False ∧ p then a else b) = b := by simp
@[go_sem] theorem ite_andf : (if p ∧ False then a else b) = b := by simp
end
@[go_sem] theorem retV_nil : retV [] = .t [] := rfl
theorem i64C_map (l : List Int) : l.flatMap i64C = l.map fun x => V.v (.int .i64 x) := by
  induction l with
  | nil => rfl
  | cons x l ih => rw [List.flatMap_cons, ih]; rfl
theorem segI (l : List Int) (a m : Nat) : seg (l.flatMap i64C) a m = ((l.drop a).take m).flatMap i64C := by
  unfold seg; rw [i64C_map, i64C_map, List.map_take, List.map_drop]
section
variable (h k : Nat) (x : V) (z : Value) (i o l : Nat) (c : Cap) (xs ys : List V)
end
end Go.Sx
namespace Go.Sx
open Go.RowKit
theorem cal_ownsRow {P : Program} {f : FuncId} {args : List V} {H : List Blk} {e : TypeId} {z n : Nat} {cells : List V} (hcall : callable P f = true) (hlen : cells.length = n * z) (hn : 0 < n)
    (hwf : ∀ c ∈ cells, V.lt H.length c ∧ c.one = true)
    (h : ∀ (σ : Nat → Loc) (w : World), HRel σ H w → lts H.length args → Calls P f (concs σ args).toArray w fun x w' => ∃ v, x = .returned v ∧ w'.ownsRow w.heap.size e z v n (concs σ cells) ∧ Below w.heap.size w w') :
    Cal P f args H fun u H' => u = .s H.length 0 n (.u 0) ∧ H' = H ++ [⟨cells, e, .own z⟩] :=
  ⟨hcall, fun σ w hw hl => (h σ w hw hl).mono fun x w' ⟨v, hx, hrow, hb⟩ => by
    obtain ⟨_, ⟨_, h0⟩ | ⟨g, cap, cur, rfl, hg, hc, h1, h2, h3, h4⟩⟩ := hrow
    · omega
    subst hx
    have ha : ∀ i, i < H.length → upσ σ H.length ⟨g, 0, cap⟩ i = σ i := fun i hi => upσ_lt _ _ _ _ hi
    have hcc : concs (upσ σ H.length ⟨g, 0, cap⟩) cells = concs σ cells := concs_congr ha _ ((lts_iff _ _).2 fun c hc => (hwf c hc).1)
    have hold : Holds (upσ σ H.length ⟨g, 0, cap⟩) w' H.length ⟨cells, e, .own z⟩ := by
      show (_ ∧ _)
      rw [upσ_same]
      exact ⟨rfl, cur, n, hc, hlen, h1, h3, h2, by rw [hcc]; exact h4⟩
    refine ⟨.s H.length 0 n (.u 0), H ++ [⟨cells, e, .own z⟩], upσ σ H.length ⟨g, 0, cap⟩, ⟨rfl, rfl⟩, ?_, by simp [V.lt], by simp, ha, ?_, ?_, ?_⟩
    · simp [conc, Cap.val, upσ_same]
    · exact hw.push ha hb.size hb.block (by rw [upσ_same]; exact hg) hold fun c hc => ⟨V.lt_mono (Nat.le_succ _) _ (hwf c hc).1, (hwf c hc).2⟩
    · exact ⟨hb.os, hb.tape, hb.output, hb.size, fun k hk _ => hb.block k hk⟩
    · intro i b hi hm
      rcases get_app_cases hi with ⟨hlt, hi⟩ | ⟨rfl, rfl⟩
      · rw [ha i hlt]; exact .inr ⟨i, b, hi, hm, rfl⟩
      · left; rw [upσ_same]; exact hg⟩
theorem cal_below {P : Program} {f : FuncId} {args : List V} {H : List Blk} {r : V} (hcall : callable P f = true) (hr : r.lt H.length)
    (h : ∀ (σ : Nat → Loc) (w : World), HRel σ H w → lts H.length args → Calls P f (concs σ args).toArray w fun x w' => x = .returned (conc σ r) ∧ Below w.heap.size w w') :
    Cal P f args H fun u H' => u = r ∧ H' = H :=
  ⟨hcall, fun σ w hw hl => (h σ w hw hl).mono fun x w' ⟨hx, hb⟩ =>
    ⟨r, H, σ, ⟨rfl, rfl⟩, hx, hr, Nat.le_refl _, fun _ _ => rfl, hw.keep (fun _ _ => rfl) hb.size (fun i b hi hlv => hb.block _ (hw.blk_lt hi hlv)), ⟨hb.os, hb.tape, hb.output, hb.size, fun k hk _ => hb.block k hk⟩, fun i b hi hm => .inr ⟨i, b, hi, hm, rfl⟩⟩⟩
theorem concs_i64 (σ : Nat → Loc) (l : List Int) : concs σ (l.flatMap i64C) = l.map (Value.int .i64) := by
  rw [concs_eq, i64C_map, List.map_map]; rfl
def sortL (l : List Int) : List Int := l.mergeSort fun x y => decide (x ≤ y)
theorem sortL_len (l : List Int) : (sortL l).length = l.length := List.length_mergeSort ..
theorem cal_sort {P : Program} {f : FuncId} {H : List Blk} {i n : Nat} {c : Cap} {l : List Int} {ty : TypeId} (hcall : callable P f = true) (hb : H[i]? = some ⟨l.flatMap i64C, ty, .own 1⟩) (hn : n = l.length) (hl : l.length ≤ 1000000)
    (h : ∀ (blk off cap : Nat) (zs : List Int) (w : World), Go.Sort.Holds (Value.int .i64) w blk off zs.toArray → blk < w.heap.size → zs.length < 4611686018427387904 →
      Calls P f #[.slice (some ⟨blk, off, none⟩) zs.length cap] w fun e w' => e = .returned (.tuple #[]) ∧ ∃ k os, w' = Go.Sort.grow (Go.Sort.putRow (Value.int .i64) (Go.Sort.ahead w k) blk off (zs.mergeSort fun x y => decide (x ≤ y)).toArray) os) :
    Cal P f [.s i 0 n c] H fun u H' => u = .t [] ∧ H' = H.set i ⟨(sortL l).flatMap i64C, ty, .own 1⟩ := by
  subst hn
  refine ⟨hcall, fun σ w hw hlt => ?_⟩
  have hh := hw.holds i _ hb
  obtain ⟨h0, cur, m, hg, hm, hcap, hsz, hmax, htake⟩ := (hh : _ ∧ _)
  rw [flat_i64.flen] at hm
  have hml : m = l.length := by simp only [Nat.mul_one] at hm; exact hm.symm
  subst hml
  rw [Nat.mul_one, concs_i64] at htake
  have hilt : i < H.length := (List.getElem?_eq_some_iff.1 hb).1
  have hH : Go.Sort.Holds (Value.int .i64) w (σ i).blk 0 l.toArray := holds_of_blockI hg htake
  have hblk : (σ i).blk < w.heap.size := (Array.getElem?_eq_some_iff.1 hg).1
  have ec : (concs σ [V.s i 0 l.length c]).toArray = #[.slice (some ⟨(σ i).blk, 0, none⟩) l.length (c.val (σ i).cap)] := by simp [concs, conc, h0]
  rw [ec]
  refine (h (σ i).blk 0 _ l w hH hblk (by omega)).mono ?_
  rintro e w' ⟨rfl, k, os, rfl⟩
  have hgb := grownBy_sortedI (w := w) (g := (σ i).blk) (n := k) (os := os) (sortL l).toArray
  have hheap := heap_sortedI (n := k) (os := os) (sortL l).toArray hg
  have hlen : (sortL l).length ≤ cur.size := by rw [sortL_len, hsz]; simpa using hcap
  have htk := take_putCellsI cur (sortL l) hlen
  have hbk : ∀ j, j < w.heap.size → j ≠ (σ i).blk → (Go.Sort.grow (Go.Sort.putRow (Value.int .i64) (Go.Sort.ahead w k) (σ i).blk 0 (sortL l).toArray) os).heap[j]? = w.heap[j]? := fun j hj hne => hgb.block j hj (by simpa using hne)
  refine ⟨.t [], H.set i ⟨(sortL l).flatMap i64C, ty, .own 1⟩, σ, ⟨rfl, rfl⟩, by simp [conc, concs], trivial, by simp, fun _ _ => rfl, ?_, ?_, ?_⟩
  · refine hw.write hb rfl hgb.size hbk ?_ fun c hc => ?_
    · show (_ ∧ _)
      refine ⟨h0, _, l.length, hheap, by rw [flat_i64.flen, sortL_len], hcap, ?_, hmax, ?_⟩
      · rw [← hsz]; simp [Go.Sort.putCells]
      · rw [Nat.mul_one, concs_i64, ← sortL_len l]; exact htk
    · obtain ⟨y, rfl, hy⟩ := flat_i64.mem hc
      exact ⟨hy, hy⟩
  · exact ⟨hgb.os, hgb.tape, hgb.output, hgb.size, fun j hj hno => hbk j hj fun e => hno i _ hb rfl e.symm⟩
  · intro j b hj hm
    rcases get_set_cases hj with ⟨_, hj⟩ | ⟨rfl, rfl⟩
    · exact .inr ⟨j, b, hj, hm, rfl⟩
    · exact .inr ⟨j, _, hb, rfl, rfl⟩
end Go.Sx
namespace Go.Sx
open Go.RowKit Go.ChangeShapes Go.WideShapes
def KC (v : V) : Prop := ∀ i off len c, v = .s i off len c → ∃ k, c = .k k ∧ len ≤ k
theorem KC_k {i off len c : Nat} (h : len ≤ c) : KC (.s i off len (.k c)) := fun _ _ _ _ e => by cases e; exact ⟨_, rfl, h⟩
theorem KC_n {a b : Nat} : KC (.v (.slice none a b)) := fun _ _ _ _ e => by cases e
theorem SlV.kc {H : List Blk} {v : V} {cs : List (List V)} (h : SlV H v cs) : KC v := by
  rcases h with ⟨rfl, _⟩ | ⟨i, cap, rest, b, rfl, hle, _⟩
  · exact KC_n
  · exact KC_k hle
theorem sized_slv {H : Type} {enc : TypeId × Value → H} {P : Program} {w : World} {base : Nat} {spare : Nat → Bool} {held : Bool} {t e : TypeId} {v : Value} {d : DataW H} {ps : List MemPlace} {ts : List TypeId} {ds : List (DataW H)} {j : Nat}
    (hsz : (DataW.weightsEach P ts ds).all (· ≤ reachBytes) = true) (ht : ts[j]? = some t) (hd : ds[j]? = some d) (hu : P.underlying t = some (.slice e)) {B : Nat} (hB : P.bytesOf e = B)
    (h : DataW.Trod enc P w base spare held t v d ps) {x : V} {cs : List (List V)} {σ : Nat → Loc} {Hp : List Blk} (hx : conc σ x = v) (hs : SlV Hp x cs) : cs.length * B ≤ 140737488351232 := by
  rcases hs with ⟨rfl, rfl⟩ | ⟨i, cap, rest, b, rfl, hle, _⟩
  · simp
  · obtain ⟨fuel, hf⟩ := h
    subst hx
    rcases DataW.trod_slice hu hf with ⟨h1, _⟩ | ⟨a, l, c, elems, rs, m, _, h1, h2, _, _, _, hel, _⟩
    · simp [Value.cells, conc] at h1
    · simp [Value.cells, conc] at h1
      obtain ⟨hx, _⟩ := Prod.mk.inj h2
      subst hx
      have z := sized_slice hsz ht hd hu
      rw [hB] at z
      simp only [List.length_map] at z
      have hl : cs.length = elems.length := by rw [hel]; exact h1.2.1
      rw [hl]
      exact Nat.le_trans (Nat.mul_le_mul_right _ (Nat.le_add_right _ _)) z
end Go.Sx
namespace Go.Sx
open Go.RowKit
section
variable (h j k : Nat) (ks : List Nat) (x : V) (z : Value) (i o l : Nat) (c : Cap) (xs ys : List V)
end
section
variable (P : Program) (t : TypeId)
end
@[go_sem] theorem zerosL_zero (zs : List V) : zerosL zs 0 = [] := rfl
@[go_sem] theorem zerosL_one (zs : List V) : zerosL zs 1 = zs := by simp [zerosL]
section
variable {P : Program} {x : Cx} {k : List Kt} {ops : Array Oper} {pre : List (List Nat)} {s : St}
def TK (P : Program) (n : Nat) (x : Cx) (k : List Kt) (ops : Array Oper) (pre : List (List Nat)) (steps : List Step) (L : List Ls) (s : St) : Prop := Wt P n ops pre steps L (den P x.n0 k x.Q .normal) s
theorem WK_looseN {l : List Oper} {sl : List V} {hp : List Blk} (id : Nat) (pre : List (List Nat)) (N : Nat) (Z0 Z1 : List (Nat × Tmp)) (steps : List Step) (hc : chkL ⟨l⟩ pre N Z0 Z1 steps = true)
    (h : MK P x (.fn (fun s' => ∃ vs : List V, vs.length = Z1.length ∧ TK P hp.length x k ⟨l⟩ pre steps (ls0 Z0 s' ++ opnd Z1 vs) (anyL (ls0 Z0 s' ++ opnd Z1 vs) s')) :: k) ⟨l⟩ [] 0 (l.take N) pre [] ⟨sl, hp⟩) : WK P x k (.region id ⟨l⟩ true) ⟨sl, hp⟩ := by
  refine .inr (.inr ⟨pre, N, Z0, Z1, steps, hc, ?_⟩)
  exact Mz_Wm P (l.take N) 0 pre [] [] ⟨sl, hp⟩ (fun j => by simp [pr]) Lg.nil rfl h
theorem Wo_LK {o : Oper} {F : St → Prop} (hg : o.guard = none) (h : LK P x (.fn F :: k) ops [o] s) : Wo P x.n0 o F s := by
  unfold LK at h
  simp only [Wl, guardV_none hg, true_implies] at h
  exact h.1
theorem TK_nil {n : Nat} {L : List Ls} (hev : ∀ z ∈ L, evZ P n ops z (fillZ pre L z s)) (h : EK P x k .normal (clo L s)) : TK P n x k ops pre [] L s := ⟨hev, h⟩
theorem TK_step {n : Nat} {l : List Oper} {L : List Ls} {j : Nat} {cl : List Nat} {opn : List (Nat × Tmp)} {r : List Step} {o : Oper} (ho : l[j]? = some o) (hg : o.guard = none) (hev : ∀ z ∈ L, evZ P n ⟨l⟩ z (fillZ pre L z s))
    (h : LK P ⟨n, x.Q⟩ (.fn (fun s' => ∃ vs : List V, vs.length = opn.length ∧ TK P n x k ⟨l⟩ pre r (stay cl L ++ opnd opn vs) (anyL (stay cl L ++ opnd opn vs) s')) :: []) ⟨l⟩ [o] (clo (L.filter fun z => cl.contains z.z) s)) : TK P n x k ⟨l⟩ pre ((j, cl, opn) :: r) L s :=
  ⟨hev, o, by simpa using ho, hg, Wo_LK (x := ⟨n, x.Q⟩) hg h⟩
end
section
variable {P : Program} {ops : Array Oper} {pre : List (List Nat)} {s : St}
theorem evZ_mk0 {n : Nat} {l : List Oper} {z : Nat} {d : Tmp} {v : V} {o : Oper} (ho : l[z]? = some o) (hg : o.guard = none) (hd : o.dst = some d) (hlt : V.lt n v) (hne : v ≠ .any) (hlen : d < s.slots.length) (h : LK P ⟨n, fun _ _ => True⟩ (.fn (fun s' => s' = s.put (some d) v) :: []) ⟨l⟩ [o] s) : evZ P n ⟨l⟩ ⟨z, d, v⟩ s :=
  ⟨hlt, hne, hlen, o, by simpa using ho, hg, hd, Wo_LK (x := ⟨n, fun _ _ => True⟩) hg h⟩
end
section
variable {P : Program} {n : Nat} {x : Cx} {k : List Kt} {ops : Array Oper} {pre : List (List Nat)} {s : St}
theorem exV0 {G : List V → Prop} (h : G []) : ∃ vs : List V, vs.length = 0 ∧ G vs := ⟨[], rfl, h⟩
theorem exV3 {G : List V → Prop} {v0 v1 v2 : V} (h : G [v0, v1, v2]) : ∃ vs : List V, vs.length = 3 ∧ G vs := ⟨[v0, v1, v2], rfl, h⟩
theorem exV7 {G : List V → Prop} {v0 v1 v2 v3 v4 v5 v6 : V} (h : G [v0, v1, v2, v3, v4, v5, v6]) : ∃ vs : List V, vs.length = 7 ∧ G vs := ⟨[v0, v1, v2, v3, v4, v5, v6], rfl, h⟩
theorem isTKs {q : Step} {r : List Step} {L : List Ls} (h : TK P n x k ops pre (q :: r) L s) : TK P n x k ops pre (q :: r) L s := h
theorem isTKn {L : List Ls} (h : TK P n x k ops pre [] L s) : TK P n x k ops pre [] L s := h
theorem evNil {n0 : Nat} {f : Ls → St} : ∀ z ∈ ([] : List Ls), evZ P n0 ops z (f z) := fun z hz => by cases hz
theorem evCons {n0 : Nat} {f : Ls → St} {y : Ls} {l : List Ls} (h : evZ P n0 ops y (f y)) (h2 : ∀ z ∈ l, evZ P n0 ops z (f z)) : ∀ z ∈ y :: l, evZ P n0 ops z (f z) := fun z hz => by
  rcases List.mem_cons.1 hz with rfl | hz
  · exact h
  · exact h2 z hz
end
attribute [go_sem] EK_fn
end Go.Sx
/- Blocks that are kept, and numbered anew, where cells of memory lead to rows. -/
namespace Go.Sx
open Go.RowKit
def renS (h : Nat) (ks : List (Option Nat)) (x y : V) : Prop := (x = y ∧ x ≠ .any ∧ V.lt h y) ∨ (∃ j k o l c c', ks[j]? = some (some k) ∧ x = .s (h + k) o l c ∧ y = .s (h + j) o l c' ∧ ∀ m, Cap.val c m = Cap.val c' m) ∨ (∃ j k o, ks[j]? = some (some k) ∧ x = .p (h + k) o ∧ y = .p (h + j) o)
def renSM (h : Nat) (ks : List (Option Nat)) : List V → List V → Prop
  | [], [] => True
  | x :: xs, y :: ys => renS h ks x y ∧ renSM h ks xs ys
  | _, _ => False
def renC (h : Nat) (ks : List (Option Nat)) (x y : V) : Prop := y = .any ∨ renS h ks x y
def renCM (h : Nat) (ks : List (Option Nat)) : List V → List V → Prop
  | [], [] => True
  | x :: xs, y :: ys => renC h ks x y ∧ renCM h ks xs ys
  | _, _ => False
def celM (h : Nat) (ks : List (Option Nat)) (xs ys : List V) : Prop := (xs = ys ∧ lts h ys) ∨ renSM h ks xs ys
def blkP (h : Nat) (ks : List (Option Nat)) (b : Blk) : Option Blk → Prop
  | some b' => b'.elem = b.elem ∧ b'.k = b.k ∧ celM h ks b'.cells b.cells
  | none => False
def blkM (h : Nat) (ks : List (Option Nat)) (L : List Blk) : List (Option Nat) → List Blk → Prop
  | [], [] => True
  | none :: r, b :: bs => b = deadB ∧ blkM h ks L r bs
  | some k :: r, b :: bs => blkP h ks b L[k]? ∧ blkM h ks L r bs
  | _, _ => False
section
variable (h j k : Nat) (ks : List (Option Nat)) (x y : V) (z : Value) (i o l : Nat) (c c' : Cap) (xs ys : List V) (L : List Blk)
theorem renCM_nil : renCM h ks [] [] = True := rfl
theorem renCM_cons : renCM h ks (x :: xs) (y :: ys) = (renC h ks x y ∧ renCM h ks xs ys) := rfl
theorem renC_any : renC h ks x .any = True := eq_true (.inl rfl)
theorem renC_S (hy : y ≠ .any) : renC h ks x y = renS h ks x y := propext ⟨fun h => h.resolve_left hy, .inr⟩
theorem renS_lt (h1 : V.lt h x) (h2 : x ≠ .any) : renS h ks x x := .inl ⟨rfl, h2, h1⟩
theorem renS_int (kd : IntKind) (n m : Int) : renS h ks (.v (.int kd n)) (.v (.int kd m)) = (n = m) := by
  unfold renS
  apply propext
  constructor
  · rintro (⟨h, _⟩ | ⟨_, _, _, _, _, _, _, h, _⟩ | ⟨_, _, _, _, h, _⟩)
    · cases h; rfl
    · cases h
    · cases h
  · rintro rfl; exact .inl ⟨rfl, (fun h => by cases h), rfl⟩
theorem renS_pp (hi : i < h) : renS h ks (.p i o) (.p i o) = True := eq_true (renS_lt h ks _ hi (fun h => by cases h))
theorem renS_ss (hi : i < h) : renS h ks (.s i o l c) (.s i o l c) = True := eq_true (renS_lt h ks _ hi (fun h => by cases h))
def capE (c c' : Cap) : Prop := ∀ m, Cap.val c m = Cap.val c' m
theorem capE_r : capE c c = True := eq_true fun _ => rfl
theorem capE_uw : capE (.u 0) .w = True := eq_true fun _ => rfl
theorem capE_wu : capE .w (.u 0) = True := eq_true fun _ => rfl
theorem capE_ui (n : Nat) : capE (.u n) (.i n) = True := eq_true fun _ => rfl
theorem renS_s (hk : ks[j]? = some (some k)) (hc : capE c c') : renS h ks (.s (h + k) o l c) (.s (h + j) o l c') = True := eq_true (.inr (.inl ⟨_, _, _, _, _, _, hk, rfl, rfl, hc⟩))
theorem renS_s1 (hk : ks[0]? = some (some k)) (hc : capE c c') : renS h ks (.s (h + k) o l c) (.s h o l c') = True := eq_true (.inr (.inl ⟨_, _, _, _, _, _, hk, rfl, rfl, hc⟩))
theorem renS_s2 (hk : ks[0]? = some (some 0)) (hc : capE c c') : renS h ks (.s h o l c) (.s h o l c') = True := eq_true (.inr (.inl ⟨_, _, _, _, _, _, hk, rfl, rfl, hc⟩))
theorem renS_p (hk : ks[j]? = some (some k)) : renS h ks (.p (h + k) o) (.p (h + j) o) = True := eq_true (.inr (.inr ⟨_, _, _, hk, rfl, rfl⟩))
theorem renS_p2 (hk : ks[0]? = some (some 0)) : renS h ks (.p h o) (.p h o) = True := eq_true (.inr (.inr ⟨_, _, _, hk, rfl, rfl⟩))
theorem blkM_nil (L : List Blk) : blkM h ks L [] [] = True := rfl
theorem blkM_some (r : List (Option Nat)) (b : Blk) (bs : List Blk) : blkM h ks L (some k :: r) (b :: bs) = (blkP h ks b L[k]? ∧ blkM h ks L r bs) := rfl
theorem blkP_some (b b' : Blk) : blkP h ks b (some b') = (b'.elem = b.elem ∧ b'.k = b.k ∧ celM h ks b'.cells b.cells) := rfl
theorem celM_same (hl : lts h xs) : celM h ks xs xs = True := eq_true (.inl ⟨rfl, hl⟩)
theorem celM_1 (h1 : renS h ks x y) : celM h ks [x] [y] = True := eq_true (.inr ⟨h1, trivial⟩)
theorem celM_3 (x' y' x'' y'' : V) (h1 : renS h ks x y) (h2 : renS h ks x' y') (h3 : renS h ks x'' y'') : celM h ks [x, x', x''] [y, y', y''] = True := eq_true (.inr ⟨h1, h2, h3, trivial⟩)
end
theorem renSM_get {h : Nat} {ks : List (Option Nat)} : ∀ {xs ys : List V}, renSM h ks xs ys → xs.length = ys.length ∧ ∀ (t : Nat) (y : V), ys[t]? = some y → ∃ x, xs[t]? = some x ∧ renS h ks x y
  | [], [], _ => ⟨rfl, fun t y hy => by simp at hy⟩
  | x :: xs, y :: ys, hr => by
    have ih := renSM_get hr.2
    refine ⟨by simp [ih.1], fun t v hv => ?_⟩
    cases t with
    | zero => simp at hv; subst hv; exact ⟨x, rfl, hr.1⟩
    | succ t => simpa using ih.2 t v (by simpa using hv)
  | [], _ :: _, hr => hr.elim
  | _ :: _, [], hr => hr.elim
theorem renCM_get {h : Nat} {ks : List (Option Nat)} : ∀ {xs ys : List V}, renCM h ks xs ys → xs.length = ys.length ∧ ∀ (t : Nat) (y : V), ys[t]? = some y → ∃ x, xs[t]? = some x ∧ renC h ks x y
  | [], [], _ => ⟨rfl, fun t y hy => by simp at hy⟩
  | x :: xs, y :: ys, hr => by
    have ih := renCM_get hr.2
    refine ⟨by simp [ih.1], fun t v hv => ?_⟩
    cases t with
    | zero => simp at hv; subst hv; exact ⟨x, rfl, hr.1⟩
    | succ t => simpa using ih.2 t v (by simpa using hv)
  | [], _ :: _, hr => hr.elim
  | _ :: _, [], hr => hr.elim
theorem blkM_get {h : Nat} {ks : List (Option Nat)} {L : List Blk} : ∀ {r : List (Option Nat)} {bs : List Blk}, blkM h ks L r bs → r.length = bs.length ∧
    ∀ (t : Nat) (b : Blk), bs[t]? = some b → (r[t]? = some none ∧ b = deadB) ∨ ∃ k b', r[t]? = some (some k) ∧ L[k]? = some b' ∧ b'.elem = b.elem ∧ b'.k = b.k ∧ celM h ks b'.cells b.cells
  | [], [], _ => ⟨rfl, fun t y hy => by simp at hy⟩
  | none :: r, b :: bs, hr => by
    have ih := blkM_get hr.2
    refine ⟨by simp [ih.1], fun t v hv => ?_⟩
    cases t with
    | zero => simp at hv; subst hv; exact .inl ⟨rfl, hr.1⟩
    | succ t => simpa using ih.2 t v (by simpa using hv)
  | some k :: r, b :: bs, hr => by
    have ih := blkM_get hr.2
    refine ⟨by simp [ih.1], fun t v hv => ?_⟩
    cases t with
    | zero =>
      simp at hv; subst hv
      have h1 := hr.1
      unfold blkP at h1
      split at h1
      · rename_i b' hb'; exact .inr ⟨k, b', rfl, hb', h1⟩
      · exact h1.elim
    | succ t => simpa using ih.2 t v (by simpa using hv)
  | [], _ :: _, hr => hr.elim
  | none :: _, [], hr => hr.elim
  | some _ :: _, [], hr => hr.elim
theorem Weak.pickC {n0 : Nat} {sl sl' : List V} {H L bs : List Blk} (ks : List (Option Nat)) (hb : blkM H.length ks L ks bs) (hnd : (ks.filterMap id).Nodup) (hn : n0 ≤ H.length) (hw : HWf H) (hs : renCM H.length ks sl sl') : Weak n0 ⟨sl, H ++ L⟩ ⟨sl', H ++ bs⟩ := by
  intro E σ a w hE hr0
  have hr := hr0.deads ks.length
  obtain ⟨hlen, hget⟩ := renCM_get hs
  obtain ⟨hkl, hbg⟩ := blkM_get hb
  let ρ : Nat → Nat := fun i => if i < H.length then i else match ks[i - H.length]? with | some (some k) => H.length + k | some none => H.length + L.length + (i - H.length) | none => i
  have hρ : ∀ i, i < H.length → ρ i = i := fun i hi => if_pos hi
  have hρ2 : ∀ j k : Nat, ks[j]? = some (some k) → ρ (H.length + j) = H.length + k := fun j k hj => by
    show (if _ then _ else _) = _
    rw [if_neg (by omega), Nat.add_sub_cancel_left, hj]
  have hρ3 : ∀ j : Nat, ks[j]? = some none → ρ (H.length + j) = H.length + L.length + j := fun j hj => by
    show (if _ then _ else _) = _
    rw [if_neg (by omega), Nat.add_sub_cancel_left, hj]
  have hkL : ∀ j k : Nat, ks[j]? = some (some k) → k < L.length := fun j k hj => by
    have hjl : j < bs.length := by rw [← hkl]; exact (List.getElem?_eq_some_iff.1 hj).1
    rcases hbg j bs[j] (List.getElem?_eq_getElem hjl) with ⟨h1, _⟩ | ⟨k', b', h1, h2, _⟩
    · rw [hj] at h1; cases h1
    · rw [hj] at h1; cases h1; exact (List.getElem?_eq_some_iff.1 h2).1
  have hinj : ∀ j j' k : Nat, ks[j]? = some (some k) → ks[j']? = some (some k) → j = j' := by
    intro j j' k h1 h2
    apply Classical.byContradiction
    intro hne
    have key : ∀ (l : List (Option Nat)) (a b : Nat), a < b → l[a]? = some (some k) → l[b]? = some (some k) → ¬ (l.filterMap id).Nodup := by
      intro l
      induction l with
      | nil => intro a b _ h; simp at h
      | cons x l ih =>
        intro a b hab ha hb hn
        cases a with
        | zero =>
          simp at ha
          subst ha
          obtain ⟨b', rfl⟩ : ∃ b', b = b' + 1 := ⟨b - 1, by omega⟩
          simp only [List.getElem?_cons_succ] at hb
          simp only [List.filterMap_cons, id, List.nodup_cons] at hn
          exact hn.1 (List.mem_filterMap.2 ⟨some k, List.mem_of_getElem? hb, rfl⟩)
        | succ a =>
          obtain ⟨b', rfl⟩ : ∃ b', b = b' + 1 := ⟨b - 1, by omega⟩
          simp only [List.getElem?_cons_succ] at ha hb
          refine ih a b' (by omega) ha hb ?_
          cases x with
          | none => simpa using hn
          | some y => simp only [List.filterMap_cons, id, List.nodup_cons] at hn; exact hn.2
    rcases Nat.lt_or_gt_of_ne hne with h | h
    · exact key ks j j' h h1 h2 hnd
    · exact key ks j' j h h2 h1 hnd
  have hlt2 : ∀ {y : V}, V.lt H.length y → V.lt (H ++ bs).length y := fun h => V.lt_mono (by simp) _ h
  have val : ∀ x y : V, renS H.length ks x y → x ≠ .any ∧ V.lt (H ++ bs).length y ∧ (x.one = true → y.one = true) ∧ ∀ σ : Nat → Loc, conc (fun j => σ (ρ j)) y = conc σ x := by
    rintro x y (⟨rfl, hne, hlt⟩ | ⟨j, k, o, l, c, c', hj, rfl, rfl, hcc⟩ | ⟨j, k, o, hj, rfl, rfl⟩)
    · exact ⟨hne, hlt2 hlt, id, fun σ => conc_congr (fun j hj => by simp only [hρ j hj]) _ hlt⟩
    · have hjl : j < bs.length := by rw [← hkl]; exact (List.getElem?_eq_some_iff.1 hj).1
      exact ⟨(fun h => by cases h), by simp [V.lt]; omega, fun _ => rfl, fun σ => by simp only [conc, hρ2 j k hj, hcc]⟩
    · have hjl : j < bs.length := by rw [← hkl]; exact (List.getElem?_eq_some_iff.1 hj).1
      exact ⟨(fun h => by cases h), by simp [V.lt]; omega, fun _ => rfl, fun σ => by simp only [conc, hρ2 j k hj]⟩
  refine Weak.ren (H := H ++ L ++ List.replicate ks.length deadB) ρ (fun i hi => hρ i (by omega)) (by simp; omega) ?_ ?_ hlen ?_ E σ a w hE hr
  · intro i j hi hj e
    simp only [List.length_append] at hi hj
    have cs : ∀ i, i < H.length + bs.length → ¬ i < H.length → ∃ m, i = H.length + m ∧ m < ks.length ∧ ((∃ k, ks[m]? = some (some k) ∧ ρ i = H.length + k ∧ k < L.length) ∨ (ks[m]? = some none ∧ ρ i = H.length + L.length + m)) := by
      intro i hi hge
      refine ⟨i - H.length, by omega, by omega, ?_⟩
      have hm : i - H.length < ks.length := by omega
      have e1 : i = H.length + (i - H.length) := by omega
      have h1 : ks[i - H.length]? = some ks[i - H.length] := List.getElem?_eq_getElem hm
      cases hk : ks[i - H.length] with
      | none => rw [hk] at h1; right; refine ⟨h1, ?_⟩; conv => lhs; rw [e1]
                exact hρ3 _ h1
      | some k => rw [hk] at h1; left; refine ⟨k, h1, ?_, hkL _ _ h1⟩; conv => lhs; rw [e1]
                  exact hρ2 _ _ h1
    by_cases e1 : i < H.length <;> by_cases e2 : j < H.length
    · rw [hρ i e1, hρ j e2] at e; exact e
    · obtain ⟨m, _, _, ⟨k, _, h3, _⟩ | ⟨_, h3⟩⟩ := cs j hj e2
      · rw [hρ i e1, h3] at e; omega
      · rw [hρ i e1, h3] at e; omega
    · obtain ⟨m, _, _, ⟨k, _, h3, _⟩ | ⟨_, h3⟩⟩ := cs i hi e1
      · rw [hρ j e2, h3] at e; omega
      · rw [hρ j e2, h3] at e; omega
    · obtain ⟨m, hm, hml, h3⟩ := cs i hi e1
      obtain ⟨n, hn', hnl, h4⟩ := cs j hj e2
      rcases h3 with ⟨k, g1, g2, g3⟩ | ⟨g1, g2⟩ <;> rcases h4 with ⟨k', g1', g2', g3'⟩ | ⟨g1', g2'⟩
      · rw [g2, g2'] at e
        have ek : k = k' := by omega
        subst ek
        rw [hm, hn', hinj m n k g1 g1']
      · rw [g2, g2'] at e; omega
      · rw [g2, g2'] at e; omega
      · rw [g2, g2'] at e; omega
  · intro i x hx
    rcases Nat.lt_or_ge i H.length with hi | hi
    · rw [List.getElem?_append_left hi] at hx
      have hlt := hw x (List.mem_of_getElem? hx)
      refine ⟨x, by rw [hρ i hi, List.append_assoc, List.getElem?_append_left hi]; exact hx, rfl, rfl, fun σ => concs_congr (fun j hj => by simp only [hρ j hj]) _ ((lts_iff _ _).2 hlt), fun c hc => ⟨hlt2 (hlt c hc), (hr0.heap.wf i x (by rw [List.getElem?_append_left hi]; exact hx) c hc).2⟩⟩
    · obtain ⟨m, rfl⟩ : ∃ m, i = H.length + m := ⟨i - H.length, by omega⟩
      rw [get_at] at hx
      have hml : m < bs.length := (List.getElem?_eq_some_iff.1 hx).1
      rcases hbg m x hx with ⟨h1, rfl⟩ | ⟨k, b', h1, h2, h3, h4, h5⟩
      · refine ⟨deadB, ?_, rfl, rfl, fun σ => rfl, fun c hc => by cases hc⟩
        rw [hρ3 m h1, show H.length + L.length = (H ++ L).length by simp, get_at, List.getElem?_replicate, if_pos (by omega)]
      · have hold : (H ++ L ++ List.replicate ks.length deadB)[H.length + k]? = some b' := by
          rw [List.append_assoc, get_at]; exact get_app h2
        have hold0 : (H ++ L)[H.length + k]? = some b' := by rw [get_at]; exact h2
        have hone := hr0.heap.wf _ b' hold0
        refine ⟨b', by rw [hρ2 m k h1]; exact hold, h3.symm, h4.symm, ?_, ?_⟩
        · intro σ
          rcases h5 with ⟨e5, l5⟩ | h5
          · rw [e5]; exact concs_congr (fun j hj => by simp only [hρ j hj]) _ l5
          · obtain ⟨hl5, hg5⟩ := renSM_get h5
            apply List.ext_getElem?
            intro t
            simp only [concs_get]
            rcases Nat.lt_or_ge t x.cells.length with ht | ht
            · obtain ⟨y, hy, hry⟩ := hg5 t x.cells[t] (List.getElem?_eq_getElem ht)
              rw [List.getElem?_eq_getElem ht, hy, Option.map_some, Option.map_some, (val _ _ hry).2.2.2 σ]
            · rw [List.getElem?_eq_none ht, List.getElem?_eq_none (by omega)]; rfl
        · intro c hc
          rcases h5 with ⟨e5, l5⟩ | h5
          · exact ⟨hlt2 ((lts_iff _ _).1 l5 c hc), (hone c (by rw [e5]; exact hc)).2⟩
          · obtain ⟨hl5, hg5⟩ := renSM_get h5
            obtain ⟨t, ht⟩ := List.getElem?_of_mem hc
            obtain ⟨y, hy, hry⟩ := hg5 t c ht
            exact ⟨(val _ _ hry).2.1, (val _ _ hry).2.2.1 (hone y (List.mem_of_getElem? hy)).2⟩
  · intro t v hv
    obtain ⟨x, hx, hrv⟩ := hget t v hv
    rcases hrv with e | hrv
    · exact .inl e
    · have := val _ _ hrv
      exact .inr ⟨x, hx, this.1, this.2.1, this.2.2.2⟩
attribute [go_sem] renCM_nil renCM_cons renC_any renS_int renS_pp renS_ss capE_r capE_uw capE_wu capE_ui renS_s renS_s1 renS_s2 renS_p renS_p2 blkM_nil blkM_some blkP_some celM_same celM_1 celM_3 renC_S
theorem Rd.renC {H : List Blk} {v : V} {α : Type} {enc : α → List V} {l : List α} (h : Rd H v enc l) (ks : List (Option Nat)) : renC H.length ks v v = True :=
  eq_true (.inr (.inl ⟨rfl, (fun e => by have := h.solid; rw [e] at this; cases this), by rw [h.vlt (Nat.le_refl _)]; trivial⟩))
end Go.Sx
/- Blocks that are kept, where older blocks lead to them. -/
namespace Go.Sx
open Go.RowKit
theorem Weak.pickD {n0 : Nat} {sl sl' : List V} {H H2 L bs : List Blk} (ks : List (Option Nat)) (hHl : H2.length = H.length) (hH : ∀ (i : Nat) (x : Blk), H2[i]? = some x → ∃ b, H[i]? = some b ∧ b.elem = x.elem ∧ b.k = x.k ∧ celM H.length ks b.cells x.cells) (hb : blkM H.length ks L ks bs) (hnd : (ks.filterMap id).Nodup) (hn : n0 ≤ H.length) (hs : renCM H.length ks sl sl') : Weak n0 ⟨sl, H ++ L⟩ ⟨sl', H2 ++ bs⟩ := by
  intro E σ a w hE hr0
  have hr := hr0.deads ks.length
  obtain ⟨hlen, hget⟩ := renCM_get hs
  obtain ⟨hkl, hbg⟩ := blkM_get hb
  let ρ : Nat → Nat := fun i => if i < H.length then i else match ks[i - H.length]? with | some (some k) => H.length + k | some none => H.length + L.length + (i - H.length) | none => i
  have hρ : ∀ i, i < H.length → ρ i = i := fun i hi => if_pos hi
  have hρ2 : ∀ j k : Nat, ks[j]? = some (some k) → ρ (H.length + j) = H.length + k := fun j k hj => by
    show (if _ then _ else _) = _
    rw [if_neg (by omega), Nat.add_sub_cancel_left, hj]
  have hρ3 : ∀ j : Nat, ks[j]? = some none → ρ (H.length + j) = H.length + L.length + j := fun j hj => by
    show (if _ then _ else _) = _
    rw [if_neg (by omega), Nat.add_sub_cancel_left, hj]
  have hkL : ∀ j k : Nat, ks[j]? = some (some k) → k < L.length := fun j k hj => by
    have hjl : j < bs.length := by rw [← hkl]; exact (List.getElem?_eq_some_iff.1 hj).1
    rcases hbg j bs[j] (List.getElem?_eq_getElem hjl) with ⟨h1, _⟩ | ⟨k', b', h1, h2, _⟩
    · rw [hj] at h1; cases h1
    · rw [hj] at h1; cases h1; exact (List.getElem?_eq_some_iff.1 h2).1
  have hinj : ∀ j j' k : Nat, ks[j]? = some (some k) → ks[j']? = some (some k) → j = j' := by
    intro j j' k h1 h2
    apply Classical.byContradiction
    intro hne
    have key : ∀ (l : List (Option Nat)) (a b : Nat), a < b → l[a]? = some (some k) → l[b]? = some (some k) → ¬ (l.filterMap id).Nodup := by
      intro l
      induction l with
      | nil => intro a b _ h; simp at h
      | cons x l ih =>
        intro a b hab ha hb hn
        cases a with
        | zero =>
          simp at ha
          subst ha
          obtain ⟨b', rfl⟩ : ∃ b', b = b' + 1 := ⟨b - 1, by omega⟩
          simp only [List.getElem?_cons_succ] at hb
          simp only [List.filterMap_cons, id, List.nodup_cons] at hn
          exact hn.1 (List.mem_filterMap.2 ⟨some k, List.mem_of_getElem? hb, rfl⟩)
        | succ a =>
          obtain ⟨b', rfl⟩ : ∃ b', b = b' + 1 := ⟨b - 1, by omega⟩
          simp only [List.getElem?_cons_succ] at ha hb
          refine ih a b' (by omega) ha hb ?_
          cases x with
          | none => simpa using hn
          | some y => simp only [List.filterMap_cons, id, List.nodup_cons] at hn; exact hn.2
    rcases Nat.lt_or_gt_of_ne hne with h | h
    · exact key ks j j' h h1 h2 hnd
    · exact key ks j' j h h2 h1 hnd
  have hlt2 : ∀ {y : V}, V.lt H.length y → V.lt (H2 ++ bs).length y := fun h => V.lt_mono (by simp; omega) _ h
  have val : ∀ x y : V, renS H.length ks x y → x ≠ .any ∧ V.lt (H2 ++ bs).length y ∧ (x.one = true → y.one = true) ∧ ∀ σ : Nat → Loc, conc (fun j => σ (ρ j)) y = conc σ x := by
    rintro x y (⟨rfl, hne, hlt⟩ | ⟨j, k, o, l, c, c', hj, rfl, rfl, hcc⟩ | ⟨j, k, o, hj, rfl, rfl⟩)
    · exact ⟨hne, hlt2 hlt, id, fun σ => conc_congr (fun j hj => by simp only [hρ j hj]) _ hlt⟩
    · have hjl : j < bs.length := by rw [← hkl]; exact (List.getElem?_eq_some_iff.1 hj).1
      exact ⟨(fun h => by cases h), by simp [V.lt]; omega, fun _ => rfl, fun σ => by simp only [conc, hρ2 j k hj, hcc]⟩
    · have hjl : j < bs.length := by rw [← hkl]; exact (List.getElem?_eq_some_iff.1 hj).1
      exact ⟨(fun h => by cases h), by simp [V.lt]; omega, fun _ => rfl, fun σ => by simp only [conc, hρ2 j k hj]⟩
  refine Weak.ren (H := H ++ L ++ List.replicate ks.length deadB) ρ (fun i hi => hρ i (by omega)) (by simp; omega) ?_ ?_ hlen ?_ E σ a w hE hr
  · intro i j hi hj e
    simp only [List.length_append, hHl] at hi hj
    have cs : ∀ i, i < H.length + bs.length → ¬ i < H.length → ∃ m, i = H.length + m ∧ m < ks.length ∧ ((∃ k, ks[m]? = some (some k) ∧ ρ i = H.length + k ∧ k < L.length) ∨ (ks[m]? = some none ∧ ρ i = H.length + L.length + m)) := by
      intro i hi hge
      refine ⟨i - H.length, by omega, by omega, ?_⟩
      have hm : i - H.length < ks.length := by omega
      have e1 : i = H.length + (i - H.length) := by omega
      have h1 : ks[i - H.length]? = some ks[i - H.length] := List.getElem?_eq_getElem hm
      cases hk : ks[i - H.length] with
      | none => rw [hk] at h1; right; refine ⟨h1, ?_⟩; conv => lhs; rw [e1]
                exact hρ3 _ h1
      | some k => rw [hk] at h1; left; refine ⟨k, h1, ?_, hkL _ _ h1⟩; conv => lhs; rw [e1]
                  exact hρ2 _ _ h1
    by_cases e1 : i < H.length <;> by_cases e2 : j < H.length
    · rw [hρ i e1, hρ j e2] at e; exact e
    · obtain ⟨m, _, _, ⟨k, _, h3, _⟩ | ⟨_, h3⟩⟩ := cs j hj e2
      · rw [hρ i e1, h3] at e; omega
      · rw [hρ i e1, h3] at e; omega
    · obtain ⟨m, _, _, ⟨k, _, h3, _⟩ | ⟨_, h3⟩⟩ := cs i hi e1
      · rw [hρ j e2, h3] at e; omega
      · rw [hρ j e2, h3] at e; omega
    · obtain ⟨m, hm, hml, h3⟩ := cs i hi e1
      obtain ⟨n, hn', hnl, h4⟩ := cs j hj e2
      rcases h3 with ⟨k, g1, g2, g3⟩ | ⟨g1, g2⟩ <;> rcases h4 with ⟨k', g1', g2', g3'⟩ | ⟨g1', g2'⟩
      · rw [g2, g2'] at e
        have ek : k = k' := by omega
        subst ek
        rw [hm, hn', hinj m n k g1 g1']
      · rw [g2, g2'] at e; omega
      · rw [g2, g2'] at e; omega
      · rw [g2, g2'] at e; omega
  · intro i x hx
    have common : ∀ (x b' : Blk) (pos : Nat), celM H.length ks b'.cells x.cells → (H ++ L)[pos]? = some b' → (∀ σ : Nat → Loc, concs (fun j => σ (ρ j)) x.cells = concs σ b'.cells) ∧ ∀ c ∈ x.cells, V.lt (H2 ++ bs).length c ∧ c.one = true := by
      intro x b' pos h5 hpos
      have hone := hr0.heap.wf _ b' hpos
      refine ⟨?_, ?_⟩
      · intro σ
        rcases h5 with ⟨e5, l5⟩ | h5
        · rw [e5]; exact concs_congr (fun j hj => by simp only [hρ j hj]) _ l5
        · obtain ⟨hl5, hg5⟩ := renSM_get h5
          apply List.ext_getElem?
          intro t
          simp only [concs_get]
          rcases Nat.lt_or_ge t x.cells.length with ht | ht
          · obtain ⟨y, hy, hry⟩ := hg5 t x.cells[t] (List.getElem?_eq_getElem ht)
            rw [List.getElem?_eq_getElem ht, hy, Option.map_some, Option.map_some, (val _ _ hry).2.2.2 σ]
          · rw [List.getElem?_eq_none ht, List.getElem?_eq_none (by omega)]; rfl
      · intro c hc
        rcases h5 with ⟨e5, l5⟩ | h5
        · exact ⟨hlt2 ((lts_iff _ _).1 l5 c hc), (hone c (by rw [e5]; exact hc)).2⟩
        · obtain ⟨hl5, hg5⟩ := renSM_get h5
          obtain ⟨t, ht⟩ := List.getElem?_of_mem hc
          obtain ⟨y, hy, hry⟩ := hg5 t c ht
          exact ⟨(val _ _ hry).2.1, (val _ _ hry).2.2.1 (hone y (List.mem_of_getElem? hy)).2⟩
    rcases Nat.lt_or_ge i H.length with hi | hi
    · rw [List.getElem?_append_left (by omega)] at hx
      obtain ⟨b', g1, g2, g3, g4⟩ := hH i x hx
      have hpos : (H ++ L)[i]? = some b' := by rw [List.getElem?_append_left hi]; exact g1
      have cm := common x b' i g4 hpos
      exact ⟨b', by rw [hρ i hi, List.append_assoc, List.getElem?_append_left hi]; exact g1, g2.symm, g3.symm, cm.1, cm.2⟩
    · obtain ⟨m, rfl⟩ : ∃ m, i = H.length + m := ⟨i - H.length, by omega⟩
      rw [show H.length + m = H2.length + m by omega, get_at] at hx
      have hml : m < bs.length := (List.getElem?_eq_some_iff.1 hx).1
      rcases hbg m x hx with ⟨h1, rfl⟩ | ⟨k, b', h1, h2, h3, h4, h5⟩
      · refine ⟨deadB, ?_, rfl, rfl, fun σ => rfl, fun c hc => by cases hc⟩
        rw [hρ3 m h1, show H.length + L.length = (H ++ L).length by simp, get_at, List.getElem?_replicate, if_pos (by omega)]
      · have hold : (H ++ L ++ List.replicate ks.length deadB)[H.length + k]? = some b' := by
          rw [List.append_assoc, get_at]; exact get_app h2
        have hold0 : (H ++ L)[H.length + k]? = some b' := by rw [get_at]; exact h2
        have cm := common x b' _ h5 hold0
        exact ⟨b', by rw [hρ2 m k h1]; exact hold, h3.symm, h4.symm, cm.1, cm.2⟩
  · intro t v hv
    obtain ⟨x, hx, hrv⟩ := hget t v hv
    rcases hrv with e | hrv
    · exact .inl e
    · have := val _ _ hrv
      exact .inr ⟨x, hx, this.1, this.2.1, this.2.2.2⟩
theorem Weak.pickS {n0 i : Nat} {sl sl' : List V} {H L bs : List Blk} {B B' : Blk} (ks : List (Option Nat)) (hB : blkP H.length ks B' (some B)) (hb : blkM H.length ks L ks bs) (hnd : (ks.filterMap id).Nodup) (hn : n0 ≤ H.length) (hw : HWf H) (hs : renCM H.length ks sl sl') : Weak n0 ⟨sl, H.set i B ++ L⟩ ⟨sl', H.set i B' ++ bs⟩ := by
  have hl : (H.set i B).length = H.length := List.length_set
  refine Weak.pickD ks (by simp) (fun j x hx => ?_) (by rw [hl]; exact hb) hnd (by rw [hl]; exact hn) (by rw [hl]; exact hs)
  rw [hl]
  rcases get_set_cases hx with ⟨hne, hj⟩ | ⟨rfl, rfl⟩
  · refine ⟨x, by rw [List.getElem?_set_ne (by omega)]; exact hj, rfl, rfl, .inl ⟨rfl, (lts_iff _ _).2 (hw x (List.mem_of_getElem? hj))⟩⟩
  · have hjl : j < H.length := by
      have := (List.getElem?_eq_some_iff.1 hx).1
      simpa using this
    exact ⟨B, by rw [List.getElem?_set_self hjl], hB.1, hB.2.1, hB.2.2⟩
end Go.Sx
/- A call that hands its own row back, grown: in place or moved. -/
namespace Go.Sx
open Go.RowKit
section
variable {P : Program}
end
end Go.Sx
/- Frames of dots: how many dots there are, and what exclusive or makes of them. Plain law: no program. -/
namespace Go.Sx
def pc (n : Nat) : Nat := ((List.range 16).filter fun i => n.testBit i).length
def pc8 (n : Nat) : Nat := ((List.range 8).filter fun i => n.testBit i).length
theorem filter_map_len {α β : Type} (g : α → β) (p : β → Bool) (l : List α) : ((l.map g).filter p).length = (l.filter fun x => p (g x)).length := by
  rw [List.filter_map, List.length_map]; rfl
theorem filter_len_congr {α : Type} {p q : α → Bool} {l : List α} (h : ∀ x ∈ l, p x = q x) : (l.filter p).length = (l.filter q).length := by
  rw [List.filter_congr h]
theorem pc_split {n : Nat} (h : n < 65536) : pc n = pc8 (n / 256) + pc8 (n % 256) := by
  unfold pc pc8
  rw [show (16 : Nat) = 8 + 8 from rfl, List.range_add, List.filter_append, List.length_append, filter_map_len, Nat.add_comm]
  congr 1
  · apply filter_len_congr; intro i hi
    rw [show (256 : Nat) = 2 ^ 8 from rfl, Nat.testBit_div_two_pow, Nat.add_comm]
  · apply filter_len_congr; intro i hi
    have := List.mem_range.1 hi
    rw [show (256 : Nat) = 2 ^ 8 from rfl, Nat.testBit_mod_two_pow]
    simp [this]
theorem pc_12 {n : Nat} (h : n ≤ 4095) : pc n = ((List.range 12).filter fun i => n.testBit i).length := by
  unfold pc
  rw [show (16 : Nat) = 12 + 4 from rfl, List.range_add, List.filter_append, List.length_append, filter_map_len]
  have : ((List.range 4).filter fun x => n.testBit (12 + x)).length = 0 := by
    rw [List.length_eq_zero_iff, List.filter_eq_nil_iff]
    intro x _
    have : n.testBit (12 + x) = false := Nat.testBit_lt_two_pow (by
      have : (2 : Nat) ^ 12 ≤ 2 ^ (12 + x) := Nat.pow_le_pow_right (by omega) (by omega)
      omega)
    rw [this]; simp
  omega
theorem dotsTo_row (f : Nat → Int) (y : Nat) : dotsTo f (y * 12 + 12) = dotsTo f (y * 12) ++ ((List.range 12).filter fun x => dot f x y).map (y * 12 + ·) := by
  unfold dotsTo
  rw [List.range_add, List.filter_append]
  congr 1
  rw [List.filter_map]
  congr 1
  apply List.filter_congr
  intro x hx
  have := List.mem_range.1 hx
  simp only [Function.comp_def]
  rw [show (y * 12 + x) % 12 = x by omega, show (y * 12 + x) / 12 = y by omega]
def cntTo (f : Nat → Int) (n : Nat) : Nat := (dotsTo f (n * 12)).length
theorem cntTo_succ {f : Nat → Int} (h : F12 f) {n : Nat} (hn : n < 12) : cntTo f (n + 1) = cntTo f n + pc (f n).toNat := by
  unfold cntTo
  rw [show (n + 1) * 12 = n * 12 + 12 by omega, dotsTo_row, List.length_append, List.length_map, pc_12 (by have := h n hn; omega)]
  rfl
theorem cntTo_zero (f : Nat → Int) : cntTo f 0 = 0 := rfl
theorem cntTo_all (f : Nat → Int) : cntTo f 12 = (dotsF f).length := rfl
theorem cntTo_le (f : Nat → Int) (n : Nat) : cntTo f n ≤ n * 12 := dotsTo_len f _
theorem dotsF_le (f : Nat → Int) : (dotsF f).length ≤ 144 := dotsTo_len f _

end Go.Sx
/- Layers as rows of numbers. Plain law: no program. -/
namespace Go.Sx
open Go.RowKit
section
variable (f g f' g' : Nat → Int) (c ns : List V)
end
end Go.Sx
/- Rows of cells of mixed kinds. Plain law: no program. -/
namespace Go.Sx
open Go.RowKit
def rowK (kd : Nat → IntKind) (n : Nat) (f : Nat → Int) : List V := (List.range n).map fun j => .v (.int (kd j) (f j))
section
variable (kd : Nat → IntKind) (n : Nat) (f : Nat → Int)
end
section
variable (P : Program) (x : Cx) (k : List Kt) (ops : Array Oper) (rest : List Oper) (i : Nat) (r : List Oper) (q : List (List Nat)) (p : List Nat) (d : Option Tmp) (L : List (Nat × LE)) (ty : TypeId) (pos : String) (af : Array Edge) (s : St)
@[go_sem high] theorem HK_true (op : Op) : HK P x k ops r d op ty pos af s (some true) = LK P x k ops ({ dst := d, op := op, type := ty, pos := pos, after := af, guard := none } :: r) s := by simp [HK_some]
@[go_sem high] theorem HK_false (op : Op) : HK P x k ops r d op ty pos af s (some false) = LK P x k ops r ⟨putS s.slots d (.t []), s.heap⟩ := by simp [HK_some]
@[go_sem high] theorem MG_true (op : Op) : MG P x k ops rest i r q p d L ty pos af op s (some true) = MK P x k ops rest i ({ dst := d, op := op, type := ty, pos := pos, after := af, guard := none } :: r) (p :: q) L s := by simp [MG_some]
@[go_sem high] theorem MG_false (op : Op) : MG P x k ops rest i r q p d L ty pos af op s (some false) = MK P x k ops rest (i + 1) r q L ⟨putS s.slots d (.t []), s.heap⟩ := by simp [MG_some]
end
end Go.Sx
/- Lists of which a part is turned round. Plain law: no program. -/
namespace Go.Sx
def turnL {α : Type} (l : List α) (i k : Nat) : List α := l.take i ++ (((l.drop i).take (k + 1 - i)).reverse ++ l.drop (k + 1))
theorem turnL_len {α : Type} {l : List α} {i k : Nat} (hi : i ≤ k + 1) (hk : k < l.length) : (turnL l i k).length = l.length := by
  unfold turnL; simp; omega
theorem turnL_map {α β : Type} (f : α → β) (l : List α) (i k : Nat) : turnL (l.map f) i k = (turnL l i k).map f := by
  unfold turnL; simp [List.map_take, List.map_drop]
theorem turnL_perm {α : Type} (l : List α) {i k : Nat} (hi : i ≤ k + 1) : (turnL l i k).Perm l := by
  unfold turnL
  have e : l = l.take i ++ ((l.drop i).take (k + 1 - i) ++ l.drop (k + 1)) := by
    have : l.drop (k + 1) = (l.drop i).drop (k + 1 - i) := by rw [List.drop_drop]; congr 1; omega
    rw [this, List.take_append_drop, List.take_append_drop]
  conv => rhs; rw [e]
  exact (List.Perm.refl _).append ((List.reverse_perm _).append (List.Perm.refl _))
theorem getD_at {α : Type} (L : List α) {j : Nat} (h : j < L.length) (d : α) : L.getD j d = L[j] := by simp [List.getD, h]
section
variable {α : Type} [Inhabited α]
def swapL (L : List α) (i j : Nat) : List α := (L.set i (L.getD j default)).set j (L.getD i default)
theorem swapL_len (L : List α) (i j : Nat) : (swapL L i j).length = L.length := by simp [swapL]
def revW (L : List α) (a n : Nat) : Nat → List α
  | 0 => L
  | m + 1 => swapL (revW L a n m) (a + m) (a + n - 1 - m)
theorem revW_len (L : List α) (a n : Nat) : ∀ m, (revW L a n m).length = L.length
  | 0 => rfl
  | m + 1 => by rw [revW, swapL_len, revW_len L a n m]
theorem revW_get (L : List α) (a n : Nat) (h : a + n ≤ L.length) : ∀ m, 2 * m ≤ n → ∀ x, (revW L a n m)[x]? = if (a ≤ x ∧ x < a + m) ∨ (a + n - m ≤ x ∧ x < a + n) then L[2 * a + n - 1 - x]? else L[x]?
  | 0, _, x => by
    rw [if_neg (by omega)]; rfl
  | m + 1, hm, x => by
    have ih := revW_get L a n h m (by omega)
    have hl := revW_len L a n m
    have g1 : (revW L a n m).getD (a + m) default = L[a + m]'(by omega) := by
      rw [List.getD_eq_getElem?_getD, ih, if_neg (by omega), List.getElem?_eq_getElem (by omega)]; rfl
    have g2 : (revW L a n m).getD (a + n - 1 - m) default = L[a + n - 1 - m]'(by omega) := by
      rw [List.getD_eq_getElem?_getD, ih, if_neg (by omega), List.getElem?_eq_getElem (by omega)]; rfl
    rw [revW, swapL, g1, g2, List.getElem?_set, List.length_set, hl, List.getElem?_set, hl]
    by_cases e1 : a + n - 1 - m = x
    · rw [if_pos e1, if_pos (by omega), if_pos (by omega), show 2 * a + n - 1 - x = a + m by omega, List.getElem?_eq_getElem (by omega)]
    · rw [if_neg e1]
      by_cases e2 : a + m = x
      · rw [if_pos e2, if_pos (by omega), if_pos (by omega), show 2 * a + n - 1 - x = a + n - 1 - m by omega, List.getElem?_eq_getElem (by omega)]
      · rw [if_neg e2, ih]
        by_cases e3 : (a ≤ x ∧ x < a + m) ∨ (a + n - m ≤ x ∧ x < a + n)
        · rw [if_pos e3, if_pos (by omega)]
        · rw [if_neg e3, if_neg (by omega)]
theorem revW_all (L : List α) (a n : Nat) (h : a + n ≤ L.length) : revW L a n (n / 2) = L.take a ++ (((L.drop a).take n).reverse ++ L.drop (a + n)) := by
  apply List.ext_getElem?
  intro x
  rw [revW_get L a n h (n / 2) (by omega)]
  have hr : (((L.drop a).take n).reverse).length = n := by simp; omega
  have ht : (L.take a).length = a := by simp; omega
  rcases Nat.lt_or_ge x a with h1 | h1
  · rw [if_neg (by omega), List.getElem?_append_left (by omega), List.getElem?_take_of_lt h1]
  · rw [List.getElem?_append_right (by omega), ht]
    rcases Nat.lt_or_ge x (a + n) with h2 | h2
    · rw [List.getElem?_append_left (by omega), List.getElem?_reverse (by simp; omega), List.getElem?_take_of_lt (by simp; omega), List.getElem?_drop]
      have e4 : ((L.drop a).take n).length = n := by simp; omega
      rw [e4]
      by_cases e3 : (a ≤ x ∧ x < a + n / 2) ∨ (a + n - n / 2 ≤ x ∧ x < a + n)
      · rw [if_pos e3]; congr 1; omega
      · rw [if_neg e3]; congr 1; omega
    · rw [if_neg (by omega), List.getElem?_append_right (by omega), hr, List.getElem?_drop]; congr 1; omega
theorem revW_turn (L : List α) {i k : Nat} (hi : i ≤ k) (h : k < L.length) : revW L i (k + 1 - i) ((k + 1 - i) / 2) = turnL L i k := by
  rw [revW_all L i (k + 1 - i) (by omega), show i + (k + 1 - i) = k + 1 by omega]; rfl
end
end Go.Sx
/- Orders of numbers. Plain law: no program. -/
namespace Go.Sx
def OrdP (o : List Int) (n : Nat) : Prop := o.length = n ∧ (∀ k ∈ o, 0 ≤ k ∧ k < (n : Int)) ∧ o.Nodup
instance (o : List Int) (n : Nat) : Decidable (OrdP o n) := by unfold OrdP; infer_instance
def isOrd (o : List Int) (n : Nat) : Bool := decide (OrdP o n)
theorem isOrd_iff {o : List Int} {n : Nat} : isOrd o n = true ↔ OrdP o n := by unfold isOrd; simp
theorem sortL_perm (o : List Int) : (sortL o).Perm o := List.mergeSort_perm ..
theorem sortL_sorted (o : List Int) : (sortL o).Pairwise (fun x y => x ≤ y) := by
  have := List.pairwise_mergeSort (le := fun x y : Int => decide (x ≤ y)) (fun a b c h1 h2 => by simp at *; omega) (fun a b => by simp; omega) o
  exact this.imp fun h => by simpa using h
theorem strict_of {s : List Int} (h : s.Pairwise (fun x y => x ≤ y)) (hn : s.Nodup) : s.Pairwise (fun x y => x < y) := by
  have := List.Pairwise.and h hn
  exact this.imp fun h => by have := h.1; have := h.2; omega
theorem strict_low {s : List Int} (h : s.Pairwise (fun x y => x < y)) (hr : ∀ k ∈ s, 0 ≤ k) : ∀ i (hi : i < s.length), (i : Int) ≤ s[i]
  | 0, hi => by have := hr _ (List.getElem_mem hi); omega
  | i + 1, hi => by
    have ih := strict_low h hr i (by omega)
    have := List.pairwise_iff_getElem.1 h i (i + 1) (by omega) hi (by omega)
    omega
theorem strict_high {s : List Int} (h : s.Pairwise (fun x y => x < y)) (hr : ∀ k ∈ s, k < (s.length : Int)) : ∀ j i (hi : i < s.length), s.length - 1 - i = j → s[i] ≤ (i : Int)
  | 0, i, hi, e => by have := hr _ (List.getElem_mem hi); omega
  | j + 1, i, hi, e => by
    have ih := strict_high h hr j (i + 1) (by omega) (by omega)
    have := List.pairwise_iff_getElem.1 h i (i + 1) (by omega) (by omega) (by omega)
    omega
theorem sortL_ord {o : List Int} (h : OrdP o o.length) (i : Nat) (hi : i < (sortL o).length) : (sortL o)[i] = (i : Int) := by
  have hp := sortL_perm o
  have hl := sortL_len o
  have hs := strict_of (sortL_sorted o) (hp.nodup_iff.2 h.2.2)
  have h1 := strict_low hs (fun k hk => (h.2.1 k (hp.mem_iff.1 hk)).1) i hi
  have h2 := strict_high hs (fun k hk => by rw [hl]; exact (h.2.1 k (hp.mem_iff.1 hk)).2) _ i hi rfl
  omega
theorem ord_of_sortL {o : List Int} (h : ∀ i (hi : i < (sortL o).length), (sortL o)[i] = (i : Int)) : OrdP o o.length := by
  have hp := sortL_perm o
  have hl := sortL_len o
  refine ⟨rfl, fun k hk => ?_, hp.nodup_iff.1 ?_⟩
  · obtain ⟨i, hi, rfl⟩ := List.mem_iff_getElem.1 (hp.mem_iff.2 hk)
    rw [h i hi]; omega
  · rw [List.Nodup, List.pairwise_iff_getElem]
    intro i j hi hj hij
    rw [h i hi, h j hj]; omega
theorem OrdP.len {o : List Int} {n : Nat} (h : OrdP o n) : o.length = n := h.1
theorem nodup_take {o : List Int} {i : Nat} (hi : i < o.length) : (o.take (i + 1)).Nodup ↔ (o.take i).Nodup ∧ o[i] ∉ o.take i := by
  rw [List.take_succ_eq_append_getElem hi, List.nodup_append]
  constructor
  · rintro ⟨h1, _, h3⟩
    exact ⟨h1, fun h => h3 _ h _ (List.mem_singleton.2 rfl) rfl⟩
  · rintro ⟨h1, h2⟩
    refine ⟨h1, by simp, fun a ha b hb e => ?_⟩
    rw [List.mem_singleton.1 hb] at e
    exact h2 (e ▸ ha)
theorem sortL_plain {o : List Int} (h : OrdP o o.length) : sortL o = (List.range o.length).map fun j : Nat => (j : Int) := by
  apply List.ext_getElem
  · simp [sortL_len]
  · intro i h1 h2
    rw [sortL_ord h i h1]; simp
theorem isOrd_len {o : List Int} {n : Nat} (h : OrdP o o.length) : isOrd o n = decide (o.length = n) := by
  rw [Bool.eq_iff_iff, isOrd_iff, decide_eq_true_eq]
  exact ⟨fun h2 => h2.1, fun h2 => h2 ▸ h⟩
theorem isOrd_false {o : List Int} {n : Nat} (h : ¬ OrdP o o.length) : isOrd o n = false := by
  rw [Bool.eq_false_iff]; intro h2; have h3 := isOrd_iff.1 h2; exact h (h3.1.symm ▸ h3)
end Go.Sx
/- Keys of a track as rows of three numbers. Plain law: no program. -/
namespace Go.Sx
open Go.RowKit
def encK (a : Nat → Int) : List V := [.v (.int .i16 (a 0)), .v (.int .i8 (a 1)), .v (.int .i8 (a 2))]
section
variable (c : List V) (a : Nat → Int) (x : Int)
end
end Go.Sx
/- Ways between keys. Plain law: no program. -/
namespace Go.Sx
def kn (l : List (Nat → Int)) (tick : Int) : Nat := (l.takeWhile fun a => decide (a 0 ≤ tick)).length
end Go.Sx
/- Speeds of a track. Plain law: no program. -/
namespace Go.Sx
end Go.Sx
/- Rows with one thing left out. -/
namespace Go.Sx
section
variable {α : Type} {enc : α → List V} {z : Nat}
end
end Go.Sx
/- Rows of bytes. -/
namespace Go.Sx
open Go.RowKit
def u8C (x : Int) : List V := [.v (.int .u8 x)]
theorem flat_u8 : Flat u8C 1 := ⟨fun _ => rfl, fun x v hv => by simp [u8C] at hv; exact ⟨_, hv, rfl⟩⟩
theorem u8C_map (l : List Int) : l.flatMap u8C = l.map fun x => V.v (.int .u8 x) := by
  induction l with
  | nil => rfl
  | cons a l ih => rw [List.flatMap_cons, ih]; rfl
theorem At.u8 {H : List Blk} {i off : Nat} {l : List Int} {b : Blk} (h : At H i off (l.flatMap u8C) b) {j : Nat} (hj : j < l.length) : Go.Sx.cel b.cells (off + j) = .v (.int .u8 l[j]) := by
  have hs := h.sg
  have hl : (l.flatMap u8C).length = l.length := by rw [flat_u8.flen, Nat.mul_one]
  rw [hl] at hs
  rw [cel_of_seg hs hj, nth_eq, u8C_map, List.getElem?_map, List.getElem?_eq_getElem hj]; rfl
theorem bytes_of {cs : List (List V)} (h : ∀ c ∈ cs, okV [.i .u8] c = true ∧ wfL c) : ∃ l : List Int, cs = l.map u8C ∧ ∀ x ∈ l, (Lit.int .u8 x).wf = true :=
  list_of _ _ cs fun c hc => by
    obtain ⟨a, e⟩ := okV_one (h c hc).1
    subst e
    exact ⟨a, rfl, (h _ hc).2 _ (List.mem_singleton.2 rfl) _ _ rfl⟩
def B8 (l : List Int) : Prop := ∀ x ∈ l, 0 ≤ x ∧ x ≤ 255
theorem B8.of {l : List Int} (h : ∀ x ∈ l, (Lit.int .u8 x).wf = true) : B8 l := fun x hx => by
  have := bounds_u8 (h x hx)
  omega
theorem HWf.re {H L L' : List Blk} (h : HWf (H ++ L)) (hl : L.length ≤ L'.length) (h' : ∀ b ∈ L', lts (H ++ L').length b.cells) : HWf (H ++ L') := by
  intro b hb c hc
  rcases List.mem_append.1 hb with hb | hb
  · exact V.lt_mono (by simp; omega) _ (h b (List.mem_append_left _ hb) c hc)
  · exact (lts_iff _ _).1 (h' b hb) c hc
theorem norefH_left {H L : List Blk} {n : Nat} (h : HWf (H ++ L)) (hn : (H ++ L).length ≤ n) : norefH n H := fun b hb => norefH_wf h hn b (List.mem_append_left _ hb)
theorem Weak.pickA {n0 h : Nat} {sl sl' : List V} {H L bs : List Blk} (A : List Blk) (ks : List (Option Nat)) (hh : (H ++ A).length = h) (hb : blkM h ks L ks bs) (hnd : (ks.filterMap id).Nodup) (hn : n0 ≤ h) (hw : HWf (H ++ A)) (hs : renCM h ks sl sl') : Weak n0 ⟨sl, H ++ (A ++ L)⟩ ⟨sl', H ++ (A ++ bs)⟩ := by
  subst hh
  have := Weak.pickC (n0 := n0) (H := H ++ A) (L := L) (bs := bs) (sl := sl) (sl' := sl') ks hb hnd hn hw hs
  rwa [List.append_assoc, List.append_assoc] at this
theorem renS_so {a z m m' o l : Nat} {c c' : Cap} {ks : List (Option Nat)} (h1 : z ≤ m) (h2 : z ≤ m') (hk : ks[m' - z]? = some (some (m - z))) (hc : capE c c') : renS (a + z) ks (.s (a + m) o l c) (.s (a + m') o l c') = True := by
  have := renS_s (a + z) (m' - z) (m - z) ks o l c c' hk hc
  rwa [show a + z + (m - z) = a + m by omega, show a + z + (m' - z) = a + m' by omega] at this
theorem renS_pl0 {a z o : Nat} {ks : List (Option Nat)} (h1 : 0 < z) : renS (a + z) ks (.p a o) (.p a o) = True := renS_pp (a + z) ks a o (by omega)
theorem call_ex {P : Program} {x : Cx} {k : List Kt} {ops : Array Oper} {r : List Oper} {d : Option Tmp} {sl : List V} {hp : List Blk} {args : List V} {n : Nat} {cs : List V} {R : V → List Blk → Prop} (hc : Cal P n (args ++ cs) hp R) (hs : args.all V.solid = true) (h : ∀ v H', R v H' → LK P x k ops r ⟨putS sl d v, H'⟩) : SK P x k ops r d args ⟨sl, hp⟩ (.f n cs) := ⟨hs, hc.mono h⟩
end Go.Sx
/- Rows of truths. -/
namespace Go.Sx
open Go.RowKit
def rowB (n : Nat) (f : Nat → Bool) : List V := (List.range n).map fun j => .v (.bool (f j))
theorem rowB_length (n : Nat) (f : Nat → Bool) : (rowB n f).length = n := by simp [rowB]
theorem rowB_cel {n j : Nat} (f : Nat → Bool) (h : j < n) : cel (rowB n f) j = .v (.bool (f j)) := by
  unfold cel rowB; rw [nth_eq, List.getElem?_map, List.getElem?_range h]; rfl
theorem rowB_rep (n : Nat) : List.replicate n (V.v (.bool false)) = rowB n fun _ => false := by
  unfold rowB
  apply List.ext_getElem
  · simp
  · intro i h1 h2; simp
def updB (f : Nat → Bool) (j : Nat) (b : Bool) (i : Nat) : Bool := if i = j then b else f i
theorem rowB_wr {n j : Nat} (f : Nat → Bool) (h : j < n) (b : Bool) : wr (rowB n f) j [.v (.bool b)] = rowB n (updB f j b) := by
  have e : wr (rowB n f) j [.v (.bool b)] = (rowB n f).set j (.v (.bool b)) := by
    unfold wr
    rw [List.set_eq_take_append_cons_drop, if_pos (by rw [rowB_length]; exact h)]
    simp
  rw [e]
  apply List.ext_getElem
  · simp [rowB]
  · intro i h1 h2
    rw [List.getElem_set]
    simp only [rowB, List.getElem_map, List.getElem_range, updB]
    by_cases hij : i = j
    · rw [if_pos hij.symm, if_pos hij]
    · rw [if_neg (fun e => hij e.symm), if_neg hij]
end Go.Sx
/- Texts as lists of bytes. -/
namespace Go.Sx
open Go.RowKit
def bytI (z : ByteArray) : List Int := z.data.toList.map fun b => (b.toNat : Int)
theorem bytI_8 (z : ByteArray) : B8 (bytI z) := fun x hx => by
  unfold bytI at hx
  obtain ⟨b, _, rfl⟩ := List.mem_map.1 hx
  have := b.toNat_lt
  omega
theorem bstr_bytI (z : ByteArray) : bstr (bytI z) = z := by
  cases z with
  | mk d =>
    simp only [bstr, bytI, List.map_map]
    have : ((fun n : Int => UInt8.ofNat n.toNat) ∘ fun b : UInt8 => (b.toNat : Int)) = id := by
      funext b; simp
    rw [this]; simp
theorem bytI_bstr {l : List Int} (h : B8 l) : bytI (bstr l) = l := by
  simp only [bstr, bytI, List.map_map]
  conv => rhs; rw [← List.map_id l]
  apply List.map_congr_left
  intro x hx
  have := h x hx
  simp only [Function.comp, id]
  have : (UInt8.ofNat x.toNat).toNat = x.toNat := by simp; omega
  omega
theorem bstr_size (l : List Int) : (bstr l).size = l.length := by simp [bstr, ByteArray.size]
theorem bstr_inj {a b : List Int} (ha : B8 a) (hb : B8 b) (h : bstr a = bstr b) : a = b := by rw [← bytI_bstr ha, ← bytI_bstr hb, h]
def sC (s : List Int) : List V := [.v (.string (bstr s))]
theorem flat_sC : Flat sC 1 := ⟨fun _ => rfl, fun x v hv => by simp [sC] at hv; exact ⟨_, hv, rfl⟩⟩
theorem sC_map (l : List (List Int)) : l.flatMap sC = l.map fun s => V.v (.string (bstr s)) := by
  induction l with
  | nil => rfl
  | cons a l ih => rw [List.flatMap_cons, ih]; rfl
theorem At.str {H : List Blk} {i off : Nat} {l : List (List Int)} {b : Blk} (h : At H i off (l.flatMap sC) b) {j : Nat} (hj : j < l.length) : Go.Sx.cel b.cells (off + j) = .v (.string (bstr l[j])) := by
  have hs := h.sg
  have hl : (l.flatMap sC).length = l.length := by rw [flat_sC.flen, Nat.mul_one]
  rw [hl] at hs
  rw [cel_of_seg hs hj, nth_eq, sC_map, List.getElem?_map, List.getElem?_eq_getElem hj]; rfl
end Go.Sx
/- Prim's tree is no heavier than any way through all places. -/
namespace Go.Sx
def cntG (t : Int) : List Int → Nat
  | [] => 0
  | x :: r => (if t ≤ x then 1 else 0) + cntG t r
def sumI : List Int → Int
  | [] => 0
  | x :: r => x + sumI r
def cntS (L : List Int) : Nat → Nat
  | 0 => 0
  | T + 1 => cntS L T + cntG ((T : Int) + 1) L
theorem cntS_nil : ∀ T, cntS [] T = 0
  | 0 => rfl
  | T + 1 => by unfold cntS; rw [cntS_nil T]; rfl
theorem cntS_cons (x : Int) (r : List Int) : ∀ T, cntS (x :: r) T = cntS [x] T + cntS r T
  | 0 => rfl
  | T + 1 => by
    unfold cntS
    rw [cntS_cons x r T]
    simp only [cntG]; omega
theorem cntS_one {x : Int} (h0 : 0 ≤ x) : ∀ T : Nat, (cntS [x] T : Int) = min x T
  | 0 => by simp only [cntS]; omega
  | T + 1 => by
    have ih := cntS_one h0 T
    simp only [cntS, cntG]
    split <;> omega
theorem sum_cntS {T : Nat} : ∀ {L : List Int}, (∀ x ∈ L, 0 ≤ x ∧ x ≤ T) → sumI L = cntS L T
  | [], _ => by rw [cntS_nil]; rfl
  | x :: r, h => by
    have hx := h x (List.mem_cons_self ..)
    have ih := sum_cntS (L := r) fun y hy => h y (List.mem_cons_of_mem _ hy)
    have h1 := cntS_one hx.1 T
    rw [cntS_cons]
    unfold sumI
    rw [ih]; omega
theorem cntS_le {A B : List Int} (h : ∀ t, 1 ≤ t → cntG t A ≤ cntG t B) : ∀ T, cntS A T ≤ cntS B T
  | 0 => Nat.le_refl _
  | T + 1 => by
    have ih := cntS_le h T
    have := h ((T : Int) + 1) (by omega)
    unfold cntS; omega
theorem sum_le_cnt {T : Nat} {A B : List Int} (hA : ∀ x ∈ A, 0 ≤ x ∧ x ≤ T) (hB : ∀ x ∈ B, 0 ≤ x ∧ x ≤ T) (h : ∀ t, 1 ≤ t → cntG t A ≤ cntG t B) : sumI A ≤ sumI B := by
  rw [sum_cntS hA, sum_cntS hB]
  have := cntS_le h T
  omega
def pathW (w : Nat → Nat → Int) : List Nat → List Int
  | [] => []
  | [_] => []
  | a :: b :: r => w a b :: pathW w (b :: r)
def labL (w : Nat → Nat → Int) (t : Int) : List Nat → Nat → Nat
  | [], _ => 0
  | [_], _ => 0
  | a :: b :: r, v => if v = a then 0 else (if t ≤ w a b then 1 else 0) + labL w t (b :: r) v
theorem labL_head (w : Nat → Nat → Int) (t : Int) (a : Nat) (r : List Nat) : labL w t (a :: r) a = 0 := by
  cases r with
  | nil => rfl
  | cons b r => unfold labL; rw [if_pos rfl]
theorem labL_le (w : Nat → Nat → Int) (t : Int) : ∀ (o : List Nat) (v : Nat), labL w t o v ≤ cntG t (pathW w o)
  | [], _ => Nat.zero_le _
  | [_], _ => Nat.zero_le _
  | a :: b :: r, v => by
    have ih := labL_le w t (b :: r) v
    unfold labL pathW cntG
    split
    · exact Nat.zero_le _
    · omega
def Shut (w : Nat → Nat → Int) (t : Int) (n : Nat) (S : Nat → Prop) : Prop := ∀ x y, x < n → y < n → S x → ¬ S y → t ≤ w x y ∧ t ≤ w y x
theorem labL_shut {w : Nat → Nat → Int} {t : Int} {n : Nat} {S : Nat → Prop} (h : Shut w t n S) : ∀ (o : List Nat), (∀ v ∈ o, v < n) → ∀ x y, x ∈ o → y ∈ o → labL w t o x = labL w t o y → (S x ↔ S y)
  | [], _, x, _, hx, _, _ => by cases hx
  | [a], _, x, y, hx, hy, _ => by rw [List.mem_singleton.1 hx, List.mem_singleton.1 hy]
  | a :: b :: r, ho, x, y, hx, hy, he => by
    have ih := labL_shut h (b :: r) fun v hv => ho v (List.mem_cons_of_mem _ hv)
    have ha := ho a (List.mem_cons_self ..)
    have hb := ho b (List.mem_cons_of_mem _ (List.mem_cons_self ..))
    have key : ∀ y, y ∈ b :: r → (if t ≤ w a b then 1 else 0) + labL w t (b :: r) y = 0 → (S a ↔ S y) := fun y hy h0 => by
      have h1 : ¬ t ≤ w a b := fun hh => by rw [if_pos hh] at h0; omega
      have h2 : S a ↔ S b := by
        constructor
        · intro sa
          apply Classical.byContradiction
          intro sb
          exact h1 (h a b ha hb sa sb).1
        · intro sb
          apply Classical.byContradiction
          intro sa
          exact h1 (h b a hb ha sb sa).2
      rw [h2]
      exact ih b y (List.mem_cons_self ..) hy (by rw [labL_head]; omega)
    unfold labL at he
    by_cases ex : x = a
    · subst ex
      by_cases ey : y = x
      · rw [ey]
      · rw [if_pos rfl, if_neg ey] at he
        rcases List.mem_cons.1 hy with e | hy
        · exact absurd e ey
        · exact key y hy he.symm
    · rw [if_neg ex] at he
      have hx2 : x ∈ b :: r := by
        rcases List.mem_cons.1 hx with e | hx
        · exact absurd e ex
        · exact hx
      by_cases ey : y = a
      · subst ey
        rw [if_pos rfl] at he
        exact (key x hx2 he).symm
      · rw [if_neg ey] at he
        have hy2 : y ∈ b :: r := by
          rcases List.mem_cons.1 hy with e | hy
          · exact absurd e ey
          · exact hy
        exact ih x y hx2 hy2 (by omega)
def freeB (lab : Nat → Nat) (n : Nat) (L : List Nat) (k : Nat) : Bool := (List.range n).all fun v => decide (lab v = k → v ∈ L)
theorem freeB_iff {lab : Nat → Nat} {n : Nat} {L : List Nat} {k : Nat} : freeB lab n L k = true ↔ ∀ v, v < n → lab v = k → v ∈ L := by
  unfold freeB
  rw [List.all_eq_true]
  simp only [List.mem_range, decide_eq_true_eq]
def freeN (lab : Nat → Nat) (n : Nat) (L : List Nat) : Nat → Nat
  | 0 => 0
  | k + 1 => freeN lab n L k + (if freeB lab n L k = true then 1 else 0)
theorem freeN_mono {lab : Nat → Nat} {n : Nat} {A B : List Nat} (h : ∀ v ∈ A, v ∈ B) : ∀ m, freeN lab n A m ≤ freeN lab n B m
  | 0 => Nat.le_refl _
  | m + 1 => by
    have ih := freeN_mono (lab := lab) (n := n) h m
    unfold freeN
    by_cases hA : freeB lab n A m = true
    · have hB : freeB lab n B m = true := freeB_iff.2 fun v hv e => h v (freeB_iff.1 hA v hv e)
      rw [if_pos hA, if_pos hB]; omega
    · rw [if_neg hA]; omega
theorem freeN_less {lab : Nat → Nat} {n : Nat} {A B : List Nat} (h : ∀ v ∈ A, v ∈ B) {k : Nat} (hB : freeB lab n B k = true) (hA : freeB lab n A k = false) : ∀ m, k < m → freeN lab n A m + 1 ≤ freeN lab n B m
  | 0, hk => by omega
  | m + 1, hk => by
    by_cases e : m = k
    · subst e
      have := freeN_mono (lab := lab) (n := n) h m
      unfold freeN
      rw [if_pos hB, if_neg (by rw [hA]; decide)]; omega
    · have ih := freeN_less h hB hA m (by omega)
      unfold freeN
      by_cases hA2 : freeB lab n A m = true
      · have hB2 : freeB lab n B m = true := freeB_iff.2 fun v hv e => h v (freeB_iff.1 hA2 v hv e)
        rw [if_pos hA2, if_pos hB2]; omega
      · rw [if_neg hA2]; omega
theorem freeN_le {lab : Nat → Nat} {n : Nat} {L : List Nat} : ∀ m, freeN lab n L m ≤ m
  | 0 => Nat.le_refl _
  | m + 1 => by
    have := freeN_le (lab := lab) (n := n) (L := L) m
    unfold freeN
    split <;> omega
theorem freeN_start {lab : Nat → Nat} {n : Nat} {L : List Nat} {k : Nat} (hk : freeB lab n L k = false) : ∀ m, k < m → freeN lab n L m + 1 ≤ m
  | 0, h => by omega
  | m + 1, h => by
    unfold freeN
    by_cases e : m = k
    · subst e
      have := freeN_le (lab := lab) (n := n) (L := L) m
      rw [if_neg (by rw [hk]; decide)]; omega
    · have := freeN_start hk m (by omega)
      split <;> omega
inductive PrimP (w : Nat → Nat → Int) : List Nat → (Nat → Int) → List Int → Prop
  | nil (L : List Nat) (near : Nat → Int) : PrimP w L near []
  | step {L : List Nat} {near : Nat → Int} {m : Nat} {ps : List Int} (hm : m ∈ L) (hle : ∀ i ∈ L, near m ≤ near i) (h : PrimP w (L.filter fun i => decide (i ≠ m)) (fun i => min (near i) (w m i)) ps) : PrimP w L near (near m :: ps)
theorem prim_cnt {w : Nat → Nat → Int} {n m : Nat} {t : Int} {lab : Nat → Nat} (hs : ∀ x y, w x y = w y x) (hm : ∀ v, v < n → lab v ≤ m) (hlab : ∀ S : Nat → Prop, Shut w t n S → ∀ x y, x < n → y < n → lab x = lab y → (S x ↔ S y)) {L : List Nat} {near : Nat → Int} {ps : List Int} (h : PrimP w L near ps) :
    (∀ i ∈ L, i < n) → (∀ i ∈ L, ∀ s, s < n → s ∉ L → near i ≤ w s i) → cntG t ps ≤ freeN lab n L (m + 1) := by
  induction h with
  | nil L near => exact fun _ _ => Nat.zero_le _
  | @step L near v ps hv hle _ ih =>
    intro hL hI
    have hsub : ∀ u ∈ L.filter (fun i => decide (i ≠ v)), u ∈ L := fun u hu => (List.mem_filter.1 hu).1
    have h1 := ih (fun i hi => hL i (hsub i hi)) fun i hi s hsn hsL => by
      have hi2 := hsub i hi
      by_cases e : s = v
      · subst e; exact Int.min_le_right _ _
      · have hsL2 : s ∉ L := fun hh => hsL (List.mem_filter.2 ⟨hh, by simp [e]⟩)
        exact Int.le_trans (Int.min_le_left _ _) (hI i hi2 s hsn hsL2)
    unfold cntG
    by_cases ht : t ≤ near v
    · rw [if_pos ht]
      have hS : Shut w t n fun x => x ∉ L := fun x y hx hy hxL hyL => by
        have hyL2 : y ∈ L := Classical.byContradiction hyL
        have a := hI y hyL2 x hx hxL
        have b := hle y hyL2
        rw [hs y x]; omega
      have hf : freeB lab n L (lab v) = true := freeB_iff.2 fun u hu e => by
        apply Classical.byContradiction
        intro hn
        exact (hlab _ hS u v hu (hL v hv) e).1 hn hv
      have hf2 : freeB lab n (L.filter fun i => decide (i ≠ v)) (lab v) = false := by
        apply Bool.eq_false_iff.2
        intro hh
        have := freeB_iff.1 hh v (hL v hv) rfl
        simp at this
      have := freeN_less hsub hf hf2 (m + 1) (by have := hm v (hL v hv); omega)
      omega
    · rw [if_neg ht]
      have := freeN_mono (lab := lab) (n := n) hsub (m + 1)
      omega
theorem prim_le {w : Nat → Nat → Int} {n T s : Nat} (hs : ∀ x y, w x y = w y x) (hr : ∀ x y, 0 ≤ w x y ∧ w x y ≤ T) {o : List Nat} (ho : ∀ v ∈ o, v < n) (hall : ∀ v, v < n → v ∈ o) {L : List Nat} {near : Nat → Int} {ps : List Int} (h : PrimP w L near ps) (hps : ∀ x ∈ ps, 0 ≤ x ∧ x ≤ T)
    (hL : ∀ i ∈ L, i < n) (hI : ∀ i ∈ L, ∀ s, s < n → s ∉ L → near i ≤ w s i) (hsn : s < n) (hsL : s ∉ L) : sumI ps ≤ sumI (pathW w o) := by
  refine sum_le_cnt (T := T) hps ?_ fun t _ => ?_
  · clear ho hall
    induction o with
    | nil => intro x hx; cases hx
    | cons a o ih =>
      cases o with
      | nil => intro x hx; cases hx
      | cons b o =>
        intro x hx
        rcases List.mem_cons.1 hx with e | hx
        · rw [e]; exact hr _ _
        · exact ih x hx
  · have h1 := prim_cnt (t := t) (lab := labL w t o) hs (fun v _ => labL_le w t o v) (fun S hS x y hx hy e => labL_shut hS o ho x y (hall x hx) (hall y hy) e) h hL hI
    have h2 := freeN_start (lab := labL w t o) (n := n) (L := L) (k := labL w t o s) (by
      apply Bool.eq_false_iff.2
      intro hh
      exact hsL (freeB_iff.1 hh s hsn rfl)) (cntG t (pathW w o) + 1) (by have := labL_le w t o s; omega)
    omega
end Go.Sx
/- Package variables at a known place: what a row lists of them, and blocks for them. -/
namespace Go.Sx
open Go.RowKit Go.ChangeShapes Go.WideShapes

theorem open_pin {P : Program} {w : World} {name : String} {g : Nat} {vs : List Value} {cs : List V} (i : Nat) (hn : P.globalNamed name = some g) (hv : w.var? P name = some vs.toArray) (hc : cs = vs.map V.v) (h1 : ∀ v ∈ vs, v.oneCell' = true) (t : TypeId) (σ : Nat → Loc) (hσ : σ i = ⟨g, 0, 0⟩) :
    Holds σ w i ⟨cs, t, .pin g⟩ ∧ (BK.pin g).mut = false ∧ ∀ c ∈ cs, (∀ n, V.lt n c) ∧ c.one = true := by
  subst hc
  refine ⟨?_, rfl, fun c hc => ?_⟩
  · unfold Holds
    simp only [hσ]
    refine ⟨⟨trivial, trivial⟩, ?_⟩
    unfold World.var? at hv
    rw [hn] at hv
    simp only [Option.bind_some] at hv
    split at hv
    · rename_i cs2 t2 fr hg
      refine ⟨t2, fr, ?_⟩
      rw [hg, Option.some.inj hv]
      congr 2
      rw [concs_eq, List.map_map]
      simp [Function.comp_def, conc]
    · cases hv
  · obtain ⟨v, hv2, rfl⟩ := List.mem_map.1 hc
    exact ⟨fun _ => h1 v hv2, h1 v hv2⟩
theorem var_tab {P : Program} {W : World} {name : String} {d : DataW Unit} {k : IntKind} {zs : List Int} {g : Nat} {t e : TypeId} {n : Nat} (h : Lib.VarReads P W name d) (hd : d = Lib.tabData k zs)
    (hg : P.globalNamed name = some g) (hty : (P.globals[g]?).map (·.type) = some t) (ht : P.underlying t = some (.array n e)) (he : P.underlying e = some (.int k)) (hce : P.cellsOf e = 1) (hct : P.cellsOf t = n) :
    W.var? P name = some (zs.map fun z => Value.int k z).toArray := by
  subst hd
  obtain ⟨g', t', cs, fuel, p, h1, h2, h3, h4⟩ := h
  obtain rfl := Option.some.inj (hg.symm.trans h1)
  obtain rfl := Option.some.inj (hty.symm.trans h2)
  have := Lib.cells_of_tab ht he hce hct h4
  rw [h3, ← this]
theorem var_int {P : Program} {w : World} {name : String} {g : Nat} {t : TypeId} {zero : Array Value} {k : IntKind}
    (h : w.ShapedOpen P) (hn : P.globalNamed name = some g) (hg : g < P.globals.size)
    (h0 : ((begin P (fun _ _ => 0) default).world.heap[g]?).bind Obj.row? = some (zero, t)) (hz : zero.size = 1)
    (hb : P.buildable t = true) (hc : P.cellTypes P.depth t = some [t]) (hu : P.underlying t = some (.int k)) :
    ∃ m, w.var? P name = some [Value.int k m].toArray := by
  obtain ⟨m, hm⟩ := Go.Proofs.cell_of_shapedOpen_int h hg h0 hz hb hc hu
  obtain ⟨cs, hh, hs, hr⟩ := h.1 g zero t hg h0
  refine ⟨m, ?_⟩
  unfold World.var?
  rw [hn]
  unfold World.cell? at hm
  simp only [Option.bind_some]
  have hsz : cs.size = 1 := hs.trans hz
  rw [hh] at hm ⊢
  simp only [Option.isSome_none] at hm
  simp only
  congr 1
  apply Array.ext'
  have : cs.toList.length = 1 := by simpa using hsz
  match hl : cs.toList, this with
  | [a], _ =>
    have : cs = #[a] := by apply Array.ext'; simpa using hl
    subst this
    simpa using hm
end Go.Sx
namespace Go
variable {H : Type} {enc : TypeId × Value → H}
theorem returnsInHanded_of_change_both {a : Assume} {C : Checked} {os : Os} {f : FuncId} {fn : Func} {s : ChangeSpec} {conds : List PathCond} {apart fresh handsOn again : Bool} {X : World → Array Value → Prop}
    (hX : ∀ (w w' : World) (args : Array Value), w.heap = w'.heap → X w args → X w' args)
    (own : ownKnob C.prog.godebug = none) (started : os.Started) (noInit : C.prog.inits.idxOf? f = none) (hfn : C.prog.funcs[f]? = some fn)
    (witness : ∃ (w : World) (tape : Tape) (i : Input), w.os = os ∧ (w.forCall tape i).Shaped C.prog ∧ i.vars = [] ∧ Input.okWide C.prog (w.forCall tape i) .any w.heap.size f i ∧
      ((s.pre enc C.prog fn conds apart (w.forCall tape i).memory i.args ∧ X (w.forCall tape i).memory i.args) ∧ sizedMet enc C.prog fn (OpenSpec.ofChange s) apart (w.forCall tape i).memory i.args) ∧ a.holds C.prog (lone (Frame.enter C.prog f i.args .normal) [] (w.forCall tape i)))
    (contract : ∀ (W : World) (base : Nat) (args : Array Value) (ds gs : List (DataW H)) (before : List MemPlace),
      (∀ (j : Nat) t v, fn.params[j]? = some t → args[j]? = some v → Value.okWide C.prog W .any base t v) →
      DataW.Whole enc C.prog fn.params.toList s.vars apart W args.toList ds gs before →
      conds.all (PathCond.test C.prog ⟨fn.params.toList, ds, s.plain.varTypes C.prog, gs⟩) = true →
      (DataW.weightsEach C.prog (fn.params.toList ++ s.plain.varTypes C.prog) (ds ++ gs)).all (· ≤ reachBytes) = true → X W args → W.ShapedOpen C.prog →
      a.holds C.prog (lone (Frame.enter C.prog f args .normal) [] W) →
      Calls C.prog f args W fun e W' => ∃ v, e = .returned v ∧ s.post enc C.prog fn apart fresh handsOn again W args v W') :
    ReturnsInHanded a C os f .any (fun w args => (s.pre enc C.prog fn conds apart w args ∧ X w args) ∧ sizedMet enc C.prog fn (OpenSpec.ofChange s) apart w args) (s.post enc C.prog fn apart fresh handsOn again) := by
  refine returnsInHanded_of_calls own started noInit witness ?_
  intro w tape i _ hsh _ hok hpre hholds
  obtain ⟨_, _, _, fn', hfn', _, _, _, _, hval⟩ := hok
  have e : fn' = fn := Option.some.inj (hfn'.symm.trans hfn)
  subst e
  obtain ⟨⟨⟨ds, gs, before, hw, hc⟩, hx⟩, hz⟩ := hpre
  have hw' := DataW.Whole.of_heap (w' := w.forCall tape i) (by rfl) hw
  refine (contract (w.forCall tape i) w.heap.size i.args ds gs before hval hw' hc (hz.weights hw) (hX _ _ _ (by rfl) hx) hsh hholds).mono fun e W' ⟨v, he, hp⟩ => ?_
  subst he
  exact ChangeSpec.post_blind hp
end Go
