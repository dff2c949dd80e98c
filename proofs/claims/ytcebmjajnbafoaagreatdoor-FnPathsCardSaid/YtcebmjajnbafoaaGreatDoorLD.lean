/- A small symbolic layer over the model, part 4: the opening of arguments, slices, and plain laws on frames; it speaks of no one program. -/
import Derived.Test.YtcebmjajnbafoaaGreatDoorLC
import Derived.OpenShut
import Derived.ChangeArms
import Derived.Below
import Derived.Carry
import Derived.ShutString
import Derived.ChangeOld
import Derived.ProofKit
import Derived.Laws.BitsAllLaws
import Derived.Sort.OwnSortedInts
import Derived.SizedLaws
import Derived.Laws.Strings
import Derived.Lib.LaidU8
import Derived.Stop.LaidErr
import Derived.Shelf.Vars
set_option linter.unusedVariables false
set_option linter.unusedSimpArgs false
namespace Go.Sx
open Go.RowKit Go.ChangeShapes Go.WideShapes

/-- The numbers fit their kinds. -/
def wfL (cs : List V) : Prop := ∀ c ∈ cs, ∀ k n, c = .v (.int k n) → (Lit.int k n).wf = true
theorem wfL_app {a b : List V} (h : wfL a) (h' : wfL b) : wfL (a ++ b) := fun c hc => by
  rcases List.mem_append.1 hc with hc | hc
  · exact h c hc
  · exact h' c hc
theorem wfL_nil : wfL [] := fun c hc => by cases hc

section
variable {H : Type} {enc : TypeId × Value → H} {P : Program} {w : World} {base : Nat} {sp : Nat → Bool} {held : Bool}

/-- What is read of a flat type has cells of its kinds. -/
def FlatAt (enc : TypeId × Value → H) (P : Program) (w : World) (base : Nat) (sp : Nat → Bool) (held : Bool) (t : TypeId) (ks : List KD) : Prop :=
  ∀ (fuel : Nat) (cs : List Value) (x : DataW H × List MemPlace), DataW.trod enc P w base sp held fuel t cs = some x → okV ks (cs.map .v) = true ∧ wfL (cs.map .v)

theorem flat_items {e : TypeId} {l : List KD} (IH : FlatAt enc P w base sp held e l) (m : Nat) (z : Nat) (hz : z = l.length) : ∀ (n : Nat) (cs : List Value), cs.length = n * z →
    (∀ i, i < n → ∃ x, DataW.trod enc P w base sp held m e ((cs.drop (i * z)).take z) = some x) → okV (List.replicate n l).flatten (cs.map .v) = true ∧ wfL (cs.map .v)
  | 0, cs, hl, _ => by
    have : cs = [] := by simpa using hl
    subst this
    exact ⟨rfl, wfL_nil⟩
  | n + 1, cs, hl, h => by
    obtain ⟨x, hx⟩ := h 0 (by omega)
    simp only [Nat.zero_mul, List.drop_zero] at hx
    have h1 := IH _ _ _ hx
    rw [Nat.add_mul, Nat.one_mul] at hl
    have h2 := flat_items IH m z hz n (cs.drop z) (by rw [List.length_drop]; omega) fun i hi => by
      have := h (i + 1) (by omega)
      rw [List.drop_drop, Nat.add_comm z]
      rw [Nat.add_mul, Nat.one_mul] at this
      exact this
    have e1 : cs.map V.v = (cs.take z).map V.v ++ (cs.drop z).map V.v := by rw [← List.map_append, List.take_append_drop]
    rw [e1, List.replicate_succ, List.flatten_cons]
    exact ⟨okV_app h1.1 h2.1, wfL_app h1.2 h2.2⟩

theorem cellsOf_szq {t : TypeId} {n : Nat} (h : szq P t = some n) : P.cellsOf t = n := by
  unfold szq at h; unfold Program.cellsOf; rw [h]; rfl

theorem flat_fields {d : Nat} (IH : ∀ t ks, kndo P d t = some ks → FlatAt enc P w base sp held t ks) (m : Nat) (cs : List Value) : ∀ (fs : List Field) (off : Nat) (ks : List KD),
    fldsK P (kndo P d) fs off = some ks → (∀ f ∈ fs, ∃ x, DataW.trod enc P w base sp held m f.type ((cs.drop f.offset).take (P.cellsOf f.type)) = some x) →
    okV ks (((cs.drop off).take ks.length).map .v) = true ∧ wfL (((cs.drop off).take ks.length).map .v)
  | [], off, ks, hk, _ => by
    simp only [fldsK, Option.some.injEq] at hk; subst hk
    simp only [List.length_nil, List.take_zero, List.map_nil]
    exact ⟨rfl, wfL_nil⟩
  | f :: fs, off, ks, hk, h => by
    simp only [fldsK] at hk
    split at hk
    · rename_i l hl
      split at hk
      · rename_i hc
        simp only [Bool.and_eq_true, bne_iff_ne, ne_eq, beq_iff_eq] at hc
        obtain ⟨ls, hls, rfl⟩ := Option.map_eq_some_iff.1 hk
        obtain ⟨x, hx⟩ := h f (List.mem_cons_self ..)
        rw [hc.1.2, cellsOf_szq hc.2] at hx
        have h1 := IH _ _ hl _ _ _ hx
        have h2 := flat_fields IH m cs fs _ ls hls fun g hg => h g (List.mem_cons_of_mem _ hg)
        rw [List.length_append, List.take_add, List.map_append, List.drop_drop]
        exact ⟨okV_app h1.1 h2.1, wfL_app h1.2 h2.2⟩
      · cases hk
    · cases hk

theorem trod_flat : ∀ (d : Nat) (t : TypeId) (ks : List KD), kndo P d t = some ks → FlatAt enc P w base sp held t ks
  | 0, _, _, h => by cases h
  | d + 1, t, ks, h => by
    intro fuel cs x hx
    simp only [kndo] at h
    split at h
    · rename_i hu
      cases h
      cases fuel with
      | zero => simp [DataW.trod] at hx
      | succ m =>
        unfold DataW.trod at hx
        rw [hu] at hx
        split at hx <;> simp_all
        refine ⟨rfl, fun c hc k n e => ?_⟩
        simp at hc; subst hc; cases e
    · rename_i k hu
      cases h
      cases fuel with
      | zero => simp [DataW.trod] at hx
      | succ m =>
        unfold DataW.trod at hx
        rw [hu] at hx
        split at hx <;> simp_all
        obtain ⟨⟨rfl, hw⟩, _⟩ := hx
        refine ⟨by simp [okV], fun c hc k n e => ?_⟩
        simp at hc; subst hc; cases e; exact hw
    · rename_i n e hu
      obtain ⟨l, hl, h⟩ := Option.bind_eq_some_iff.1 h
      split at h
      · rename_i hc
        cases h
        simp only [Bool.and_eq_true, beq_iff_eq] at hc
        obtain ⟨xs, m, rfl, _, hlen, hxs, hi⟩ := DataW.trod_array hu hx
        rw [cellsOf_szq hc.2] at hlen
        refine flat_items (trod_flat d e l hl) m l.length rfl n cs hlen fun i hin => ?_
        have := hi i hin
        rw [cellsOf_szq hc.1] at this
        rw [this]
        exact ⟨_, List.getElem?_eq_getElem (by omega)⟩
      · cases h
    · rename_i fs hu
      split at h
      · cases h
      · obtain ⟨l, hl, h⟩ := Option.bind_eq_some_iff.1 h
        split at h
        · rename_i hc
          cases h
          simp only [beq_iff_eq] at hc
          obtain ⟨xs, m, rfl, _, hlen, hxs, hi⟩ := DataW.trod_struct hu hx
          rw [cellsOf_szq hc] at hlen
          have := flat_fields (fun t ks hk => trod_flat d t ks hk) m cs fs.toList 0 ks hl fun f hf => by
            obtain ⟨i, hi', hfi⟩ := List.mem_iff_getElem.1 hf
            have h2 : fs[i]? = some f := by rw [← hfi]; simp
            rw [hi i f h2]
            exact ⟨_, List.getElem?_eq_getElem (by rw [hxs]; simpa using hi')⟩
          rw [List.drop_zero, ← hlen, List.take_length] at this
          exact this
        · cases h
    · cases h
end

section
variable {H : Type} {enc : TypeId × Value → H} {P : Program} {w : World} {base : Nat} {sp : Nat → Bool} {held : Bool}
theorem concs_v (σ : Nat → Loc) (l : List Value) : concs σ (l.map .v) = l := by
  rw [concs_eq, List.map_map]
  have : (conc σ ∘ V.v) = id := by funext x; rfl
  rw [this]; simp

/-- AN ARGUMENT THAT IS A SLICE OF A FLAT TYPE: nil, or a row that can be read. -/
theorem open_slice {t e : TypeId} {ks : List KD} {v : Value} {d : DataW H} {ps : List MemPlace} {r : Reach} {b0 : Nat} (hu : P.underlying t = some (.slice e)) (hk : kndo P 20 e = some ks) (hs : szo P e = some ks.length)
    (hval : Value.okWide P w r b0 t v) (hd : DataW.Trod enc P w base (fun _ => true) held t v d ps) :
    v = .slice none 0 0 ∨ ∃ blk off len cap, ∃ cs : List (List V), v = .slice (some ⟨blk, off, none⟩) len cap ∧ blk < w.heap.size ∧ len ≤ cap ∧ cap ≤ maxLen ∧ cs.length = cap ∧ (∀ c ∈ cs, okV ks c = true ∧ wfL c ∧ ∃ l : List Value, c = l.map .v) ∧
      ∀ σ j u, (concs σ cs.flatten)[j]? = some u → w.cell? ⟨blk, off + j, none⟩ = some u := by
  obtain ⟨fuel, hf⟩ := hd
  obtain ⟨a, len, cap, rfl⟩ := okWide_slice hu hval
  have hz : P.cellsOf e = ks.length := by unfold szo at hs; unfold Program.cellsOf; rw [hs]; rfl
  rcases DataW.trod_slice hu hf with ⟨h1, _⟩ | ⟨x, l, c, elems, rest, m, _, h1, _, _, hlc, hcm, hel, hg, hsp, _⟩
  · left; simpa [Value.cells] using h1
  · right
    simp [Value.cells] at h1
    obtain ⟨rfl, rfl, rfl⟩ := h1
    simp only [Value.okWide, hu, Cell.okWide, Cell.ok] at hval
    obtain ⟨_, _, _, hspot, row, cells, hshape, _⟩ := hval
    obtain ⟨blk, off, spot⟩ := x
    simp only at hspot hshape
    subst hspot
    have hblk : blk < w.heap.size := by
      unfold World.shape? at hshape
      cases hh : w.heap[blk]? with
      | none => rw [hh] at hshape; simp at hshape
      | some o => exact (Array.getElem?_eq_some_iff.1 hh).1
    obtain ⟨hrest, hr⟩ := hsp rfl
    have each : ∀ i, i < cap → ∃ cv : List Value, w.cells? base (Addr.add ⟨blk, off, none⟩ (i * ks.length)) ks.length = some cv ∧ okV ks (cv.map .v) = true ∧ wfL (cv.map .v) := by
      intro i hi
      have get : ∃ y, (w.cells? base (Addr.add ⟨blk, off, none⟩ (i * ks.length)) ks.length).bind (DataW.trod enc P w base (fun _ => true) held m e) = some y := by
        by_cases hil : i < len
        · have := hg i hil
          rw [hz] at this
          rw [this]; exact ⟨_, List.getElem?_eq_getElem (by omega)⟩
        · have := hr (i - len) (by omega)
          rw [hz, show len + (i - len) = i by omega] at this
          rw [this]; exact ⟨_, List.getElem?_eq_getElem (by omega)⟩
      obtain ⟨y, hy⟩ := get
      obtain ⟨cv, hc, ht⟩ := Option.bind_eq_some_iff.1 hy
      have := trod_flat 20 e ks hk _ _ _ ht
      exact ⟨cv, hc, this.1, this.2⟩
    let C : Nat → List Value := fun i => (w.cells? base (Addr.add ⟨blk, off, none⟩ (i * ks.length)) ks.length).getD []
    have hC : ∀ i, i < cap → w.cells? base (Addr.add ⟨blk, off, none⟩ (i * ks.length)) ks.length = some (C i) ∧ okV ks ((C i).map .v) = true ∧ wfL ((C i).map .v) := by
      intro i hi
      obtain ⟨cv, h1, h2, h3⟩ := each i hi
      have : C i = cv := by show (w.cells? _ _ _).getD [] = cv; rw [h1]; rfl
      rw [this]; exact ⟨h1, h2, h3⟩
    refine ⟨blk, off, len, cap, (List.range cap).map fun i => (C i).map .v, rfl, hblk, hlc, hcm, by simp, fun c hc => ?_, fun σ j u hu => ?_⟩
    · obtain ⟨i, hi, rfl⟩ := List.mem_map.1 hc
      have := hC i (List.mem_range.1 hi)
      exact ⟨this.2.1, this.2.2, _, rfl⟩
    · have key : ∀ n, n ≤ cap → ∀ j u, (concs σ ((List.range n).map fun i => (C i).map V.v).flatten)[j]? = some u → w.cell? ⟨blk, off + j, none⟩ = some u := by
        intro n
        induction n with
        | zero => intro _ j u h; simp [concs] at h
        | succ n ih =>
          intro hn j u h
          have hlen : ∀ n, n ≤ cap → (concs σ ((List.range n).map fun i => (C i).map V.v).flatten).length = n * ks.length := by
            intro n
            induction n with
            | zero => intro _; simp [concs]
            | succ n ihn =>
              intro hn
              rw [List.range_succ, List.map_append, List.flatten_append, concs_append, List.length_append, ihn (by omega)]
              have := okV_len (hC n (by omega)).2.1
              simp only [List.map_cons, List.map_nil, List.flatten_cons, List.flatten_nil, List.append_nil, concs_v]
              rw [List.length_map] at this
              rw [this, Nat.add_mul, Nat.one_mul]
          rw [List.range_succ, List.map_append, List.flatten_append, concs_append] at h
          rcases Nat.lt_or_ge j (n * ks.length) with hj | hj
          · rw [List.getElem?_append_left (by rw [hlen n (by omega)]; exact hj)] at h
            exact ih (by omega) j u h
          · rw [List.getElem?_append_right (by rw [hlen n (by omega)]; exact hj), hlen n (by omega)] at h
            simp only [List.map_cons, List.map_nil, List.flatten_cons, List.flatten_nil, List.append_nil, concs_v] at h
            have hc := (hC n (by omega)).1
            unfold World.cells? at hc
            split at hc
            · have hl2 := (List.getElem?_eq_some_iff.1 h).1
              have hlc2 := okV_len (hC n (by omega)).2.1
              rw [List.length_map] at hlc2
              have hjz : j - n * ks.length < ks.length := by omega
              have := mapM_some_get hc (j - n * ks.length) (j - n * ks.length) (by simp [hjz])
              rw [h] at this
              have e : (Addr.add ⟨blk, off, none⟩ (n * ks.length)).add (j - n * ks.length) = ⟨blk, off + j, none⟩ := by
                rw [addr_add, addr_add]; congr 1; omega
              rw [e] at this
              exact this
            · cases hc
      exact key cap (Nat.le_refl _) j u hu
end

/-- A CALL BY ITS CONTRACT, when nothing that came in may be written. -/
theorem calls_of_cal {P : Program} {f : FuncId} {args : List V} {H : List Blk} {σ : Nat → Loc} {w : World} {R : V → List Blk → Prop} (hc : Cal P f args H R) (hR : ∀ v H', R v H' → v = .v (.bool true)) (hrel : HRel σ H w) (hl : lts H.length args)
    (hro : ∀ b ∈ H, b.k.mut = false) {vs : Array Value} (hv : vs = (concs σ args).toArray) : Calls P f vs w fun e w' => e = .returned (.bool true) ∧ Below w.heap.size w w' := by
  subst hv
  refine (hc.2 σ w hrel hl).mono ?_
  rintro e w' ⟨v, H', σ', r, rfl, _, _, _, _, fr, _⟩
  rw [hR _ _ r]
  refine ⟨rfl, ⟨fr.os, fr.tape, fr.output, fr.size, fun k hk => fr.block k hk fun i b hb hm => ?_⟩⟩
  rw [hro b (List.mem_of_getElem? hb)] at hm
  cases hm
theorem HRel_nil (σ : Nat → Loc) (w : World) : HRel σ [] w := ⟨fun i b h => by simp at h, fun i j bi bj _ h => by simp at h, fun i b h => by simp at h⟩

end Go.Sx
namespace Go.Sx
open Go.RowKit

theorem ret_at {P : Program} {x : Cx} {R : V → List Blk → Prop} {H H1 : List Blk} {sl : List V} {rs : List ResultVar} (hq : ∀ e s, fin P H.length rs R e s → x.Q e s) (e : Exit) (he : e = .ret ∨ e = .normal) (hn : H.length ≤ H1.length)
    (h : FK (fun v => R v H1) (resL P ⟨sl, H1⟩ rs)) : EK P x [] e ⟨sl, H1⟩ := by
  refine hq _ _ ?_
  unfold FK at h
  split at h
  · rename_i p vs hr
    rcases he with rfl | rfl <;> (simp only [fin, hr]; exact ⟨h.1, _, _, Drop.refl _ _ _ hn, h.2⟩)
  · exact h.elim
/-- Blocks that nothing leads to are let go. -/
theorem Weak.cut {n0 : Nat} {sl : List V} {H L : List Blk} (hn : n0 ≤ H.length) (hl : lts H.length sl) (hw : HWf H) : Weak n0 ⟨sl, H ++ L⟩ ⟨sl, H⟩ := by
  intro E σ a w hE hr
  have get : ∀ (i : Nat) (b : Blk), H[i]? = some b → (H ++ L)[i]? = some b := fun i b hi => by
    rw [List.getElem?_append_left (List.getElem?_eq_some_iff.1 hi).1]; exact hi
  refine ⟨σ, ⟨hr.defers, hr.size, hr.slots, (lts_iff _ _).1 hl, ⟨fun i b hi => hr.heap.holds i b (get i b hi), fun i j bi bj hne hi hj => hr.heap.sep i j bi bj hne (get i bi hi) (get j bj hj), fun i b hi c hc => ⟨hw b (List.mem_of_getElem? hi) c hc, (hr.heap.wf i b (get i b hi) c hc).2⟩⟩, by rw [hE]; exact hn, hr.agree, hr.fr, fun i b hi hm => hr.new i b (get i b hi) hm⟩⟩
theorem Weak.both {n0 : Nat} {sl sl' : List V} {hp H L : List Blk} (e : hp = H ++ L) (h : lessL sl sl') (hn : n0 ≤ H.length) (hl : lts H.length sl') (hw : HWf H) : Weak n0 ⟨sl, hp⟩ ⟨sl', H⟩ := by
  subst e
  exact (Weak.slots h).trans (Weak.cut hn hl hw)
theorem HWf.app {H L : List Blk} (h : HWf H) (hl : ∀ b ∈ L, lts (H ++ L).length b.cells) : HWf (H ++ L) := by
  intro b hb c hc
  rcases List.mem_append.1 hb with hb | hb
  · exact V.lt_mono (by simp) _ (h b hb c hc)
  · exact (lts_iff _ _).1 (hl b hb) c hc
theorem HWf.one {H : List Blk} {b : Blk} (h : HWf H) (hl : lts (H.length + 1) b.cells) : HWf (H ++ [b]) := h.app fun c hc => by
  simp at hc; subst hc; simpa using hl
@[go_sem] theorem lt_p (m i o : Nat) : V.lt m (.p i o) = (i < m) := by simp [V.lt]
@[go_sem] theorem lt_s (m i o l : Nat) (c : Cap) : V.lt m (.s i o l c) = (i < m) := by simp [V.lt]
@[go_sem] theorem lt_e (m i o c l z : Nat) : V.lt m (.e i o c l z) = (i < m) := by simp [V.lt]
@[go_sem] theorem lt_any (m : Nat) : V.lt m .any = True := by simp [V.lt]
@[go_sem] theorem lt_f (m i : Nat) (cs : List V) : V.lt m (.f i cs) = lts m cs := by simp [V.lt]
@[go_sem] theorem lt_nil (m : Nat) : V.lt m (.v (.slice none 0 0)) = True := eq_true rfl
theorem cel_of_seg {cs l : List V} {o z j : Nat} (h : seg cs o z = l) (hj : j < z) : cel cs (o + j) = nth l j := by
  subst h; unfold cel seg; rw [nth_eq, nth_eq, List.getElem?_take, if_pos hj, List.getElem?_drop]
end Go.Sx
/- Frames of dots as rows of numbers: what the bits of rows say. Plain law: no program. -/
namespace Go.Sx

/-- The rows fit 16 bits. -/
def R16 (f : Nat → Int) : Prop := ∀ j, j < 12 → 0 ≤ f j ∧ f j < 65536
theorem wrap_u64 {x : Int} (h : 0 ≤ x) (h2 : x < 18446744073709551616) : IntKind.u64.wrap x = x := by
  unfold IntKind.wrap
  simp only [IntKind.bits, IntKind.signed, Bool.false_and]
  simp; omega
end Go.Sx
/- Frames of dots that are moved and grown. Plain law: no program. -/
namespace Go.Sx

end Go.Sx
namespace Go.Sx
open Go.RowKit Go.ChangeShapes Go.WideShapes

/-- v is a slice of the things cs: nil, or a row that is there (with room behind it). -/
def SlV (H : List Blk) (v : V) (cs : List (List V)) : Prop :=
  (v = .v (.slice none 0 0) ∧ cs = []) ∨ ∃ i cap rest b, v = .s i 0 cs.length (.k cap) ∧ cs.length ≤ cap ∧ At H i 0 (cs.flatten ++ rest) b
theorem SlV.app {H L : List Blk} {v : V} {cs : List (List V)} (h : SlV H v cs) : SlV (H ++ L) v cs := by
  rcases h with h | ⟨i, cap, rest, b, h1, h2, h3⟩
  · exact .inl h
  · exact .inr ⟨i, cap, rest, b, h1, h2, h3.app⟩

theorem HRel_ro {σ : Nat → Loc} {H : List Blk} {w : World} (h : ∀ i b, H[i]? = some b → Holds σ w i b ∧ b.k.mut = false ∧ ∀ c ∈ b.cells, (∀ n, V.lt n c) ∧ c.one = true) : HRel σ H w :=
  ⟨fun i b hb => (h i b hb).1, fun i j bi bj _ _ hj _ hm => (by rw [(h j bj hj).2.1] at hm; cases hm), fun i b hb c hc => ⟨((h i b hb).2.2 c hc).1 _, ((h i b hb).2.2 c hc).2⟩⟩

theorem okV_one_cell : ∀ {ks : List KD} {cs : List V}, okV ks cs = true → ∀ {y : Value}, V.v y ∈ cs → y.oneCell' = true
  | [], [], _, _, hy => by cases hy
  | .i k :: r, .v (.int k' n) :: xs, h, y, hy => by
    simp only [okV, Bool.and_eq_true] at h
    rcases List.mem_cons.1 hy with e | e
    · cases e; rfl
    · exact okV_one_cell h.2 e
  | .b :: r, .v (.bool b) :: xs, h, y, hy => by
    simp only [okV] at h
    rcases List.mem_cons.1 hy with e | e
    · cases e; rfl
    · exact okV_one_cell h e
  | [], _ :: _, h, _, _ => by simp [okV] at h
  | .i k :: r, [], h, _, _ => by simp [okV] at h
  | .b :: r, [], h, _, _ => by simp [okV] at h

section
variable {H : Type} {enc : TypeId × Value → H} {P : Program} {w : World} {base : Nat} {held : Bool}
/-- AN ARGUMENT THAT IS A SLICE, as block i. -/
theorem open_slv {t e : TypeId} {ks : List KD} {v : Value} {d : DataW H} {ps : List MemPlace} {r : Reach} {b0 : Nat} (i : Nat) (hu : P.underlying t = some (.slice e)) (hk : kndo P 20 e = some ks) (hs : szo P e = some ks.length)
    (hval : Value.okWide P w r b0 t v) (hd : DataW.Trod enc P w base (fun _ => true) held t v d ps) :
    ∃ (loc : Loc) (b : Blk) (x : V) (cs : List (List V)), (∀ σ : Nat → Loc, σ i = loc → conc σ x = v) ∧ (∀ σ : Nat → Loc, σ i = loc → Holds σ w i b ∧ b.k.mut = false ∧ ∀ c ∈ b.cells, (∀ n, V.lt n c) ∧ c.one = true) ∧
      (∀ Hp : List Blk, Hp[i]? = some b → SlV Hp x cs) ∧ (∀ c ∈ cs, okV ks c = true ∧ wfL c) ∧ (∀ n, i < n → V.lt n x) ∧ cs.length ≤ maxLen := by
  rcases open_slice hu hk hs hval hd with rfl | ⟨blk, off, len, cap, cs, rfl, hblk, hle, hmax, hlen, hcs, hread⟩
  · refine ⟨⟨0, 0, 0⟩, deadB, .v (.slice none 0 0), [], fun _ _ => rfl, fun σ _ => ⟨trivial, rfl, fun c hc => (by simp [deadB] at hc)⟩, fun _ _ => .inl ⟨rfl, rfl⟩, fun c hc => (by cases hc), fun _ _ => rfl, Nat.zero_le _⟩
  · have hl : (cs.take len).length = len := by rw [List.length_take]; omega
    refine ⟨⟨blk, off, cap⟩, ⟨cs.flatten, e, .ro⟩, .s i 0 len (.k cap), cs.take len, fun σ hσ => ?_, fun σ hσ => ⟨?_, rfl, fun c hc => ?_⟩, fun Hp hp => .inr ⟨i, cap, (cs.drop len).flatten, ⟨cs.flatten, e, .ro⟩, by rw [hl], by rw [hl]; exact hle, ?_⟩, fun c hc => ⟨(hcs c (List.mem_of_mem_take hc)).1, (hcs c (List.mem_of_mem_take hc)).2.1⟩, fun n hn => hn, by rw [hl]; omega⟩
    · simp only [conc, hσ, Cap.val, Nat.add_zero]
    · unfold Holds
      simp only [hσ]
      exact ⟨hblk, fun j u hu => hread σ j u hu⟩
    · obtain ⟨l, hl2, hc2⟩ := List.mem_flatten.1 hc
      obtain ⟨vs, rfl⟩ := (hcs l hl2).2.2
      obtain ⟨y, hy, rfl⟩ := List.mem_map.1 hc2
      have hone : y.oneCell' = true := by
        have hok := (hcs _ hl2).1
        exact okV_one_cell hok hc2
      exact ⟨fun _ => hone, hone⟩
    · refine ⟨hp, rfl, ?_⟩
      show seg cs.flatten 0 _ = _
      have e1 : (cs.take len).flatten ++ (cs.drop len).flatten = cs.flatten := by rw [← List.flatten_append, List.take_append_drop]
      rw [e1]
      unfold seg; rw [List.drop_zero, List.take_length]
end
end Go.Sx
namespace Go.Sx
open Go.RowKit

/-- v is a slice of the things l (each enc's cells): nil, or the row of block i, with cells rest behind it up to its capacity. -/
structure Sl {α : Type} (H : List Blk) (v : V) (enc : α → List V) (l : List α) (i : Nat) (b : Blk) (cap : Nat) (rest : List V) : Prop where
  is : (v = .v (.slice none 0 0) ∧ l = []) ∨ (v = .s i 0 l.length (.k cap) ∧ l.length ≤ cap ∧ At H i 0 (l.flatMap enc ++ rest) b)

section
variable {α : Type} {H L : List Blk} {v : V} {enc : α → List V} {l : List α} {i : Nat} {b : Blk} {cap : Nat} {rest : List V} {P : Program}
theorem Sl.app (h : Sl H v enc l i b cap rest) : Sl (H ++ L) v enc l i b cap rest := ⟨by
  rcases h.is with h | ⟨h1, h2, h3⟩
  · exact .inl h
  · exact .inr ⟨h1, h2, h3.app⟩⟩
theorem Sl.solid (h : Sl H v enc l i b cap rest) : V.solid v = true := by
  rcases h.is with ⟨h, _⟩ | ⟨h, _⟩ <;> rw [h] <;> rfl
theorem Sl.vlt (h : Sl H v enc l i b cap rest) {n : Nat} (hn : H.length ≤ n) : V.lt n v = True := by
  apply eq_true
  rcases h.is with ⟨h, _⟩ | ⟨h, _, ha⟩
  · rw [h]; exact rfl
  · rw [h]; exact Nat.lt_of_lt_of_le ha.lt hn
theorem Sl.noref (h : Sl H v enc l i b cap rest) {n : Nat} (hn : H.length ≤ n) : V.noref n v = true := by
  rcases h.is with ⟨h, _⟩ | ⟨h, _, ha⟩
  · rw [h]; rfl
  · rw [h]; have := ha.lt; unfold V.noref; simp; omega
theorem Sl.lenV (h : Sl H v enc l i b cap rest) {t : TypeId} (ht : slTy P t = true) : lenV P t v = some (True, .v (.int .i64 l.length)) := by
  rcases h.is with ⟨h, hl⟩ | ⟨h, _⟩
  · rw [h, lenV_n _ _ _ _ ht, hl]; rfl
  · rw [h, lenV_s _ _ _ _ _ _ ht]
theorem Sl.row (h : Sl H v enc l i b cap rest) (hl : 0 < l.length) : v = .s i 0 l.length (.k cap) ∧ l.length ≤ cap ∧ At H i 0 (l.flatMap enc ++ rest) b := by
  rcases h.is with ⟨_, h⟩ | h
  · rw [h] at hl; cases hl
  · exact h
theorem Sl.get (h : Sl H v enc l i b cap rest) (hl : 0 < l.length) : H[i]? = some b := (h.row hl).2.2.get
theorem Sl.live (h : Sl H v enc l i b cap rest) (hl : 0 < l.length) : b.k.live = true := (h.row hl).2.2.live
theorem Sl.seg (h : Sl H v enc l i b cap rest) {z : Nat} (hz : ∀ x, (enc x).length = z) {n : Nat} (hn : n < l.length) : Go.Sx.seg b.cells (n * z) z = enc l[n] := by
  have := (h.row (by omega)).2.2.left.elem enc z hz hn
  rwa [Nat.zero_add] at this
theorem Sl.fits (h : Sl H v enc l i b cap rest) {z : Nat} (hz : ∀ x, (enc x).length = z) {n : Nat} (hn : n < l.length) (h0 : 0 < z) : n * z + z ≤ b.cells.length := by
  have := (h.row (by omega)).2.2.left.fits enc z hz hn h0
  rwa [Nat.zero_add] at this
theorem Sl.at_ (h : Sl H v enc l i b cap rest) {z : Nat} (hz : ∀ x, (enc x).length = z) {n : Nat} (hn : n < l.length) : At H i (n * z) (enc l[n]) b :=
  ⟨h.get (by omega), h.live (by omega), by rw [hz]; exact h.seg hz hn⟩
theorem Sl.nil (H : List Blk) (enc : α → List V) : Sl H (.v (.slice none 0 0)) enc [] 0 deadB 0 [] := ⟨.inl ⟨rfl, rfl⟩⟩
end
end Go.Sx
namespace Go.Sx
open Go.RowKit
/- Regions that draw, by their number. -/
section
variable {P : Program} {x : Cx} {k : List Kt} {l : List Oper} {s : St}
theorem WK_drawAt (id : Nat) (pre : List (List Nat)) (hc : chk ⟨l⟩ pre l.length = true) (h : MK P x k ⟨l⟩ [] 0 l pre [] s) : WK P x k (.region id ⟨l⟩ true) s := DK_all _ _ _ pre hc h
theorem WK_drawUp (id : Nat) (pre : List (List Nat)) (N : Nat) (hc : chk ⟨l⟩ pre N = true) (h : MK P x k ⟨l⟩ (l.drop N) 0 (l.take N) pre [] s) : WK P x k (.region id ⟨l⟩ true) s := DK_some _ _ _ pre N hc h
end
/- A slice of a slice in a region that draws. -/
def mkS' (P : Program) (x : Cx) (k : List Kt) (ops : Array Oper) (rest : List Oper) (i : Nat) (r : List Oper) (q : List (List Nat)) (p : List Nat) (d : Option Tmp) (L : List (Nat × LE)) (t : TypeId) (lo hi mx : Option V) (s : St) (v : V) : Prop :=
  match v.capKnown with
  | true => MR P x k ops rest i r q p d L s (slcV P t v lo hi mx)
  | false => ME P x k ops rest i r q p d L t lo hi mx s v
section
variable (P : Program) (x : Cx) (k : List Kt) (ops : Array Oper) (rest : List Oper) (i : Nat) (r : List Oper) (q : List (List Nat)) (p : List Nat) (d : Option Tmp) (L : List (Nat × LE)) (sl : List V) (hp : List Blk) (ty : TypeId) (pos : String) (af : Array Edge) (t : TypeId) (lo hi mx : Option V)
theorem MK_slice (a : Operand) (lo hi mx : Option Operand) : MK P x k ops rest i ({ dst := d, op := .slice t a lo hi mx, type := ty, pos := pos, after := af, guard := none } :: r) (p :: q) L ⟨sl, hp⟩ =
    mkS' P x k ops rest i r q p d L t (lo.map (ev sl)) (hi.map (ev sl)) (mx.map (ev sl)) ⟨sl, hp⟩ (ev sl a) := MK_slcK ..
@[congr] theorem mkS'_congr {lo lo' hi hi' mx mx' : Option V} {s s' : St} {v v' : V} (h1 : lo = lo') (h2 : hi = hi') (h3 : mx = mx') (h4 : s = s') (h5 : v = v') : mkS' P x k ops rest i r q p d L t lo hi mx s v = mkS' P x k ops rest i r q p d L t lo' hi' mx' s' v' := by rw [h1, h2, h3, h4, h5]
theorem mkS_k (j off len c : Nat) : mkS' P x k ops rest i r q p d L t lo hi mx ⟨sl, hp⟩ (.s j off len (.k c)) = MR P x k ops rest i r q p d L ⟨sl, hp⟩ (sliceV P (fun _ _ => False) t (.s j off len (.k c)) lo hi mx) := rfl
theorem mkS_p (j off : Nat) : mkS' P x k ops rest i r q p d L t lo hi mx ⟨sl, hp⟩ (.p j off) = MR P x k ops rest i r q p d L ⟨sl, hp⟩ (sliceV P (fun _ _ => False) t (.p j off) lo hi mx) := rfl
theorem mkS_v (z : Value) : mkS' P x k ops rest i r q p d L t lo hi mx ⟨sl, hp⟩ (.v z) = MR P x k ops rest i r q p d L ⟨sl, hp⟩ (sliceV P (fun _ _ => False) t (.v z) lo hi mx) := rfl
theorem mkS_u (j off len c : Nat) : mkS' P x k ops rest i r q p d L t lo hi mx ⟨sl, hp⟩ (.s j off len (.u c)) = MD P x k ops rest i r q p d L j ⟨sl, hp⟩ ((sliceV P (reachTo hp (.s j off len (.u c))) t (.s j off len (.u c)) lo hi mx).map fun q => ((q.1 ∧ capOk hp (.s j off len (.u c))) ∧ j < hp.length, q.2)) := by
  show MD P x k ops rest i r q p d L j ⟨sl, hp⟩ ((slV P hp t (.s j off len (.u c)) lo hi mx).map fun q => (q.1 ∧ j < hp.length, q.2)) = _
  unfold slV; rw [Option.map_map]; rfl
theorem mkS_i (j off len c : Nat) : mkS' P x k ops rest i r q p d L t lo hi mx ⟨sl, hp⟩ (.s j off len (.i c)) = MD P x k ops rest i r q p d L j ⟨sl, hp⟩ ((sliceV P (reachTo hp (.s j off len (.i c))) t (.s j off len (.i c)) lo hi mx).map fun q => ((q.1 ∧ capOk hp (.s j off len (.i c))) ∧ j < hp.length, q.2)) := by
  show MD P x k ops rest i r q p d L j ⟨sl, hp⟩ ((slV P hp t (.s j off len (.i c)) lo hi mx).map fun q => (q.1 ∧ j < hp.length, q.2)) = _
  unfold slV; rw [Option.map_map]; rfl
end
attribute [go_sem] MK_slice mkS_k mkS_p mkS_v mkS_u mkS_i
/- A slice held against nil. -/
def bnP (op : BinOp) (b : Bool) : Bool → Option (Prop × V)
  | true => match op with
    | .eql => some (True, .v (.bool b))
    | .neq => some (True, .v (.bool (!b)))
    | _ => none
  | false => none
@[go_sem] theorem bnP_eql (b : Bool) : bnP .eql b true = some (True, .v (.bool b)) := rfl
@[go_sem] theorem bnP_neq (b : Bool) : bnP .neq b true = some (True, .v (.bool (!b))) := rfl
theorem binNil_bnP (P : Program) (op : BinOp) (t : TypeId) (b : Bool) : binNil P op t b = bnP op b (slTy P t) := by
  unfold binNil bnP; cases slTy P t <;> cases op <;> rfl
@[go_sem] theorem binV_sn (P : Program) (op : BinOp) (t : TypeId) (i o l : Nat) (c : Cap) (a b : Nat) : binV P op t (.s i o l c) (.v (.slice none a b)) = bnP op false (slTy P t) := by
  rw [← binNil_bnP]; rfl
@[go_sem] theorem binV_nn (P : Program) (op : BinOp) (t : TypeId) (a b a' b' : Nat) : binV P op t (.v (.slice none a b)) (.v (.slice none a' b')) = bnP op true (slTy P t) := by
  rw [← binNil_bnP]; rfl

theorem At.len0 {H : List Blk} {i : Nat} {cs : List V} {b : Blk} (h : At H i 0 cs b) : cs.length ≤ b.cells.length := by
  have := congrArg List.length h.sg
  unfold seg at this
  simp at this
  omega
/-- v is a slice whose things are l. -/
def Rd {α : Type} (H : List Blk) (v : V) (enc : α → List V) (l : List α) : Prop :=
  (v = .v (.slice none 0 0) ∧ l = []) ∨ ∃ i off c b, v = .s i off l.length c ∧ At H i off (l.flatMap enc) b ∧ off + (l.flatMap enc).length ≤ b.cells.length
section
variable {α : Type} {H L : List Blk} {v : V} {enc : α → List V} {l : List α} {P : Program}
theorem Rd.app (h : Rd H v enc l) : Rd (H ++ L) v enc l := by
  rcases h with h | ⟨i, off, c, b, h1, h2, h3⟩
  · exact .inl h
  · exact .inr ⟨i, off, c, b, h1, h2.app, h3⟩
theorem Rd.solid (h : Rd H v enc l) : V.solid v = true := by
  rcases h with ⟨h, _⟩ | ⟨i, off, c, b, h, _⟩ <;> rw [h] <;> rfl
theorem Rd.vlt (h : Rd H v enc l) {n : Nat} (hn : H.length ≤ n) : V.lt n v = True := by
  apply eq_true
  rcases h with ⟨h, _⟩ | ⟨i, off, c, b, h, ha, _⟩
  · rw [h]; exact rfl
  · rw [h]; exact Nat.lt_of_lt_of_le ha.lt hn
theorem Rd.noref (h : Rd H v enc l) {n : Nat} (hn : H.length ≤ n) : V.noref n v = true := by
  rcases h with ⟨h, _⟩ | ⟨i, off, c, b, h, ha, _⟩
  · rw [h]; rfl
  · rw [h]; have := ha.lt; unfold V.noref; simp; omega
theorem Rd.lenV (h : Rd H v enc l) {t : TypeId} (ht : slTy P t = true) : lenV P t v = some (True, .v (.int .i64 l.length)) := by
  rcases h with ⟨h, hl⟩ | ⟨i, off, c, b, h, _⟩
  · rw [h, lenV_n _ _ _ _ ht, hl]; rfl
  · rw [h, lenV_s _ _ _ _ _ _ ht]
theorem Rd.row (h : Rd H v enc l) (hl : 0 < l.length) : ∃ i off c b, v = .s i off l.length c ∧ At H i off (l.flatMap enc) b := by
  rcases h with ⟨_, h⟩ | ⟨i, off, c, b, h1, h2, _⟩
  · rw [h] at hl; cases hl
  · exact ⟨i, off, c, b, h1, h2⟩
theorem Rd.full (h : Rd H v enc l) (hl : 0 < l.length) : ∃ i off c b, v = .s i off l.length c ∧ At H i off (l.flatMap enc) b ∧ off + (l.flatMap enc).length ≤ b.cells.length := by
  rcases h with ⟨_, h⟩ | h
  · rw [h] at hl; cases hl
  · exact h
theorem Rd.nil (H : List Blk) (enc : α → List V) : Rd H (.v (.slice none 0 0)) enc [] := .inl ⟨rfl, rfl⟩
theorem Rd.nilE (h : l = []) : Rd H (.v (.slice none 0 0)) enc l := .inl ⟨rfl, h⟩
theorem Rd.of {i : Nat} {c : Cap} {b : Blk} (h : At H i 0 (l.flatMap enc) b) : Rd H (.s i 0 l.length c) enc l := .inr ⟨i, 0, c, b, rfl, h, by have := h.len0; omega⟩
theorem Rd.ofl {i : Nat} {c : Cap} {b : Blk} {r : List α} (h : At H i 0 ((l ++ r).flatMap enc) b) : Rd H (.s i 0 l.length c) enc l := Rd.of (by rw [List.flatMap_append] at h; exact h.left)
/-- Block n behind H holds just these. -/
theorem Rd.own {L : List Blk} {t : TypeId} {k : BK} {c : Cap} {m : Nat} (n : Nat) (h : L[n]? = some ⟨l.flatMap enc, t, k⟩) (hk : k.live = true) (hm : m = l.length) : Rd (H ++ L) (.s (H.length + n) 0 m c) enc l := by subst hm; exact Rd.of (At.mk' n h hk)
theorem Rd.own0 {L : List Blk} {t : TypeId} {k : BK} {c : Cap} {m : Nat} (h : L[0]? = some ⟨l.flatMap enc, t, k⟩) (hk : k.live = true) (hm : m = l.length) : Rd (H ++ L) (.s H.length 0 m c) enc l := by subst hm; exact Rd.of (At.mk' (H := H) (L := L) 0 h hk)
theorem Rd.fill {L : List Blk} {t : TypeId} {k : BK} {c : Cap} {m : Nat} {r : List α} (n : Nat) (h : L[n]? = some ⟨(l ++ r).flatMap enc, t, k⟩) (hk : k.live = true) (hm : m = l.length) : Rd (H ++ L) (.s (H.length + n) 0 m c) enc l := by subst hm; exact Rd.ofl (At.mk' n h hk)
theorem Rd.fill0 {L : List Blk} {t : TypeId} {k : BK} {c : Cap} {m : Nat} {r : List α} (h : L[0]? = some ⟨(l ++ r).flatMap enc, t, k⟩) (hk : k.live = true) (hm : m = l.length) : Rd (H ++ L) (.s H.length 0 m c) enc l := by subst hm; exact Rd.ofl (At.mk' (H := H) (L := L) 0 h hk)
end
/- Rows of rows. -/
section
variable {α : Type} (enc : α → List V) (z : Nat) (hz : ∀ x, (enc x).length = z)
include hz
end
theorem zeros_flat {α : Type} (enc : α → List V) (x : α) (n : Nat) : zerosL (enc x) n = (List.replicate n x).flatMap enc := by
  unfold zerosL; rw [List.flatMap_replicate]
theorem wr_app {a c ns : List V} {o : Nat} (h : o + ns.length ≤ a.length) : wr (a ++ c) o ns = wr a o ns ++ c := by
  unfold wr
  rw [List.take_append_of_le_length (by omega), List.drop_append_of_le_length (by omega)]
  simp [List.append_assoc]
/-- What is flat: cells that lead nowhere. -/
structure Flat {α : Type} (enc : α → List V) (z : Nat) : Prop where
  len : ∀ x, (enc x).length = z
  cell : ∀ x v, v ∈ enc x → ∃ y, v = .v y ∧ y.oneCell' = true
section
variable {α : Type} {enc : α → List V} {z : Nat}
theorem Flat.mem (h : Flat enc z) {l : List α} {v : V} (hv : v ∈ l.flatMap enc) : ∃ y, v = .v y ∧ y.oneCell' = true := by
  obtain ⟨x, _, hx⟩ := List.mem_flatMap.1 hv
  exact h.cell x v hx
theorem Flat.lts (h : Flat enc z) (m : Nat) (l : List α) : lts m (l.flatMap enc) = True := eq_true ((lts_iff _ _).2 fun v hv => by obtain ⟨y, rfl, hy⟩ := h.mem hv; exact hy)
theorem Flat.one (h : Flat enc z) (l : List α) : (l.flatMap enc).all V.one = true := List.all_eq_true.2 fun v hv => by obtain ⟨y, rfl, hy⟩ := h.mem hv; exact hy
theorem Flat.norefs (h : Flat enc z) (m : Nat) (l : List α) : norefs m (l.flatMap enc) = true := by
  rw [norefs_all]; exact List.all_eq_true.2 fun v hv => by obtain ⟨y, rfl, hy⟩ := h.mem hv; rfl
theorem Flat.flen (h : Flat enc z) (l : List α) : (l.flatMap enc).length = l.length * z := flat_len enc z h.len l
theorem Flat.lts1 (h : Flat enc z) (m : Nat) (x : α) : Go.Sx.lts m (enc x) = True := eq_true ((lts_iff _ _).2 fun v hv => by obtain ⟨y, rfl, hy⟩ := h.cell x v hv; exact hy)
theorem Flat.norefs1 (h : Flat enc z) (m : Nat) (x : α) : Go.Sx.norefs m (enc x) = true := by
  rw [norefs_all]; exact List.all_eq_true.2 fun v hv => by obtain ⟨y, rfl, hy⟩ := h.cell x v hv; rfl
end
theorem flat_rowL (k : IntKind) (z : Nat) : Flat (rowL k z) z := ⟨fun x => rowL_length _ _ _, fun x v hv => by obtain ⟨j, _, rfl⟩ := rowL_mem _ _ _ hv; exact ⟨_, rfl, rfl⟩⟩
/-- A number as a thing of one cell. -/
def i64C (x : Int) : List V := [.v (.int .i64 x)]
theorem flat_i64 : Flat i64C 1 := ⟨fun _ => rfl, fun x v hv => by simp [i64C] at hv; exact ⟨_, hv, rfl⟩⟩
theorem i64_row : ∀ l : List Int, l.flatMap i64C = rowL .i64 l.length (fun j => l[j]?.getD 0)
  | [] => rfl
  | a :: l => by rw [List.flatMap_cons, i64_row l, List.length_cons, rowL_cons]; rfl
theorem At.i64 {H : List Blk} {i off : Nat} {l : List Int} {b : Blk} (h : At H i off (l.flatMap i64C) b) {j : Nat} (hj : j < l.length) : Go.Sx.cel b.cells (off + j) = .v (.int .i64 l[j]) := by
  rw [i64_row] at h
  rw [At.cel h hj]; simp [hj]
/-- A state says less than one of which it renames the blocks. -/
theorem Weak.ren {n0 : Nat} {sl sl' : List V} {H H' : List Blk} (ρ : Nat → Nat) (h0 : ∀ i, i < n0 → ρ i = i) (hn : n0 ≤ H'.length)
    (inj : ∀ i j, i < H'.length → j < H'.length → ρ i = ρ j → i = j)
    (hb : ∀ (i : Nat) (b : Blk), H'[i]? = some b → ∃ b', H[ρ i]? = some b' ∧ b.elem = b'.elem ∧ b.k = b'.k ∧ (∀ σ : Nat → Loc, concs (fun j => σ (ρ j)) b.cells = concs σ b'.cells) ∧ ∀ c ∈ b.cells, V.lt H'.length c ∧ c.one = true)
    (hl : sl.length = sl'.length) (hs : ∀ (t : Nat) (v : V), sl'[t]? = some v → v = .any ∨ ∃ v', sl[t]? = some v' ∧ v' ≠ .any ∧ V.lt H'.length v ∧ ∀ σ : Nat → Loc, conc (fun j => σ (ρ j)) v = conc σ v') : Weak n0 ⟨sl, H⟩ ⟨sl', H'⟩ := by
  intro E σ a w hE h
  refine ⟨fun j => σ (ρ j), h.defers, ?_, fun t v hv => ?_, fun v hv => ?_, ⟨fun i b hi => ?_, fun i j bi bj hne hi hj l1 m2 => ?_, fun i b hi => (hb i b hi).choose_spec.2.2.2.2⟩, by rw [hE]; exact hn, fun i hi => ?_, h.fr, fun i b hi hm => ?_⟩
  · rw [h.size]; exact hl
  · rcases hs t v hv with e | ⟨v', e1, e2, _, e3⟩
    · exact .inl e
    · right; rw [e3 σ]; exact (h.slots t v' e1).resolve_left e2
  · obtain ⟨t, ht⟩ := List.getElem?_of_mem hv
    rcases hs t v ht with e | ⟨v', _, _, e, _⟩
    · rw [e]; exact trivial
    · exact e
  · obtain ⟨b', g1, g2, g3, g4, _⟩ := hb i b hi
    have := h.heap.holds _ _ g1
    unfold Holds at this ⊢
    have el : b.cells.length = b'.cells.length := by have := congrArg List.length (g4 σ); simpa [concs_length] using this
    rw [g3]
    rw [g4 σ, g2, el]
    exact this
  · obtain ⟨b1, g1, _, g3, _⟩ := hb i bi hi
    obtain ⟨b2, k1, _, k3, _⟩ := hb j bj hj
    refine h.heap.sep _ _ b1 b2 (fun e => hne (inj i j ?_ ?_ e)) g1 k1 (by rw [← g3]; exact l1) (by rw [← k3]; exact m2)
    · exact (List.getElem?_eq_some_iff.1 hi).1
    · exact (List.getElem?_eq_some_iff.1 hj).1
  · simp only [h0 i (by omega)]; exact h.agree i hi
  · obtain ⟨b', g1, _, g3, _⟩ := hb i b hi
    exact h.new _ b' g1 (by rw [← g3]; exact hm)
end Go.Sx
namespace Go.Sx
/-- The first place where p holds, or -1. -/
def idxL {α : Type} (p : α → Bool) (l : List α) : Int := match l.findIdx? p with | some j => j | none => -1
theorem idxL_at {α : Type} {p : α → Bool} {l : List α} {n : Nat} (hn : n < l.length) (hp : p l[n] = true) (hb : ∀ j (hj : j < l.length), j < n → p l[j] = false) : idxL p l = n := by
  unfold idxL
  have : l.findIdx? p = some n := by
    rw [List.findIdx?_eq_some_iff_getElem]
    exact ⟨hn, hp, fun j hj => by rw [hb j (by omega) hj]; decide⟩
  rw [this]
theorem idxL_none {α : Type} {p : α → Bool} {l : List α} (hb : ∀ j (hj : j < l.length), p l[j] = false) : idxL p l = -1 := by
  unfold idxL
  have : l.findIdx? p = none := by
    rw [List.findIdx?_eq_none_iff]
    intro x hx
    obtain ⟨j, hj, rfl⟩ := List.mem_iff_getElem.1 hx
    exact hb j hj
  rw [this]
end Go.Sx
namespace Go.Sx
@[go_sem] theorem neg101 (n : Nat) : ((101 : Int) + (n : Int) < 0) = False := eq_false (by omega)
@[go_sem] theorem neg101b (n m : Nat) : ((101 : Int) + (n : Int) + (m : Int) < 0) = False := eq_false (by omega)
@[go_sem] theorem neg101c (n m o : Nat) : ((101 : Int) + (n : Int) + (m : Int) + (o : Int) < 0) = False := eq_false (by omega)
theorem At.el {α : Type} {H : List Blk} {i off : Nat} {enc : α → List V} {z : Nat} {l : List α} {b : Blk} (h : At H i off (l.flatMap enc) b) (hz : ∀ x, (enc x).length = z) {j : Nat} (hj : j < l.length) : At H i (off + j * z) (enc l[j]) b :=
  ⟨h.get, h.live, by rw [hz]; exact h.elem enc z hz hj⟩
theorem At.all {α : Type} {H : List Blk} {i off : Nat} {enc : α → List V} {z : Nat} {l : List α} {b : Blk} (h : At H i off (l.flatMap enc) b) (hz : ∀ x, (enc x).length = z) : seg b.cells off (l.length * z) = l.flatMap enc := by
  have := h.sg
  rwa [flat_len enc z hz] at this
end Go.Sx
namespace Go.Sx
open Go.RowKit
theorem SlV.rd {α : Type} {H : List Blk} {v : V} {cs : List (List V)} (h : SlV H v cs) {enc : α → List V} {l : List α} (e : cs = l.map enc) : Rd H v enc l := by
  subst e
  rcases h with ⟨h1, h2⟩ | ⟨i, cap, rest, b, h1, h2, h3⟩
  · exact .inl ⟨h1, by simpa using h2⟩
  · rw [List.length_map] at h1
    rw [h1]
    exact Rd.of (by have := h3.left; rwa [← List.flatMap_def] at this)
theorem list_of {α β : Type} (f : α → β) (Q : α → Prop) : ∀ (cs : List β), (∀ c ∈ cs, ∃ x, c = f x ∧ Q x) → ∃ l : List α, cs = l.map f ∧ ∀ x ∈ l, Q x
  | [], _ => ⟨[], rfl, fun x hx => by cases hx⟩
  | c :: cs, h => by
    obtain ⟨x, rfl, hx⟩ := h c (List.mem_cons_self ..)
    obtain ⟨l, rfl, hl⟩ := list_of f Q cs fun c hc => h c (List.mem_cons_of_mem _ hc)
    exact ⟨x :: l, rfl, fun y hy => by
      rcases List.mem_cons.1 hy with e | hy
      · rw [e]; exact hx
      · exact hl y hy⟩
theorem r16_of_wf' {f : Nat → Int} (h : ∀ j, j < 12 → (Lit.int .u16 (f j)).wf = true) : R16 f := fun j hj => by
  have := bounds_u16 (h j hj)
  omega
end Go.Sx
namespace Go.Sx
open Go.RowKit
/- Strings. -/
section
variable (P : Program) (t src : TypeId) (s s' : ByteArray) (kd : IntKind) (n : Int)
def lsP (s : ByteArray) : Option TypeDesc → Option (Prop × V)
  | some .string => some (True, .v (.int .i64 s.size))
  | _ => none
@[go_sem] theorem lsP_some : lsP s (some .string) = some (True, .v (.int .i64 s.size)) := rfl
@[go_sem] theorem lenV_str : lenV P t (.v (.string s)) = lsP s (P.underlying t) := rfl
def ixsP (s : ByteArray) (n : Int) : Option TypeDesc → Option (Prop × V)
  | some .string => some (0 ≤ n ∧ n < s.size, .v (.int .u8 ((s.data.toList[n.toNat]?.getD 0).toNat : Int)))
  | _ => none
@[go_sem] theorem ixsP_some : ixsP s n (some .string) = some (0 ≤ n ∧ n < s.size, .v (.int .u8 ((s.data.toList[n.toNat]?.getD 0).toNat : Int))) := rfl
@[go_sem] theorem indexV_str : indexV P t (.v (.string s)) (.v (.int kd n)) = ixsP s n (P.underlying t) := rfl
@[go_sem] theorem binV_sadd : binV P .add t (.v (.string s)) (.v (.string s')) = some (s.size + s'.size ≤ 9223372036854775807, .v (.string (s ++ s'))) := rfl
@[go_sem] theorem binV_seql : binV P .eql t (.v (.string s)) (.v (.string s')) = some (True, .v (.bool (decide (s.toList = s'.toList)))) := rfl
@[go_sem] theorem binV_sneq : binV P .neq t (.v (.string s)) (.v (.string s')) = some (True, .v (.bool (!decide (s.toList = s'.toList)))) := rfl
def slsP (s : ByteArray) : Option (Option Int) → Option (Option Int) → Option (Option Int) → Option TypeDesc → Option (Prop × V)
  | some l, some h, some none, some .string => some (0 ≤ l.getD 0 ∧ l.getD 0 ≤ h.getD s.size ∧ h.getD s.size ≤ s.size, .v (.string (s.extract (l.getD 0).toNat (h.getD s.size).toNat)))
  | _, _, _, _ => none
@[go_sem] theorem slsP_some (l h : Option Int) : slsP s (some l) (some h) (some none) (some .string) = some (0 ≤ l.getD 0 ∧ l.getD 0 ≤ h.getD s.size ∧ h.getD s.size ≤ s.size, .v (.string (s.extract (l.getD 0).toNat (h.getD s.size).toNat))) := rfl
@[go_sem] theorem sliceV_str (R : Nat → Int → Prop) (lo hi mx : Option V) : sliceV P R t (.v (.string s)) lo hi mx = slsP s (bnd lo) (bnd hi) (bnd mx) (P.underlying t) := by
  unfold sliceV slsP
  cases bnd lo <;> cases bnd hi <;> cases bnd mx <;> try rfl
  all_goals
    rename_i m
    cases m <;> first | rfl | (cases P.underlying t <;> first | rfl | (rename_i d; cases d <;> rfl))
def cvsP (s : ByteArray) : Option TypeDesc → Option TypeDesc → Option (Prop × V)
  | some _, some .string => some (True, .v (.string s))
  | _, _ => none
@[go_sem] theorem cvsP_sl (u : TypeDesc) (e : TypeId) : cvsP s (some u) (some (.slice e)) = none := rfl
@[go_sem] theorem cvsP_some (u : TypeDesc) : cvsP s (some u) (some .string) = some (True, .v (.string s)) := rfl
@[go_sem] theorem convV_str : convV P src t (.v (.string s)) = cvsP s (P.underlying src) (P.underlying t) := rfl
end
section
variable {P : Program} {x : Cx} {k : List Kt} {ops : Array Oper} {rest r : List Oper} {i id : Nat} {q : List (List Nat)} {p : List Nat} {d : Option Tmp} {L : List (Nat × LE)} {s : St} {args : List V} {v : V}
theorem isSK (h : SK P x k ops r d args s v) : SK P x k ops r d args s v := h
theorem isMC (h : MC P x k ops rest i r q p d L args s v) : MC P x k ops rest i r q p d L args s v := h
theorem isWKr (h : WK P x k (.region id ops true) s) : WK P x k (.region id ops true) s := h
end
/-- The last blocks are let go. -/
theorem Weak.keepN {n0 : Nat} {sl sl' : List V} {H L L' M : List Blk} (e : L = L' ++ M) (h : lessL sl sl') (hn : n0 ≤ (H ++ L').length) (hl : lts (H ++ L').length sl') (hw : HWf (H ++ L')) : Weak n0 ⟨sl, H ++ L⟩ ⟨sl', H ++ L'⟩ := by
  subst e
  exact Weak.both (H := H ++ L') (L := M) (by simp) h hn hl hw
/-- The end, where one new block is kept. -/
theorem ret_one {P : Program} {x : Cx} {R : V → List Blk → Prop} {H L : List Blk} {sl : List V} {rs : List ResultVar} (hq : ∀ e s, fin P H.length rs R e s → x.Q e s) (hw : HWf H) (e : Exit) (he : e = .ret ∨ e = .normal)
    (k : Nat) {b : Blk} (hb : L[k]? = some b) (hbw : lts H.length b.cells) (v' : V) (hv' : v'.lt (H.length + 1))
    (h : FK (fun v => (∀ σ : Nat → Loc, conc (upσ σ H.length (σ (H.length + k))) v' = conc σ v) ∧ R v' (H ++ [b])) (resL P ⟨sl, H ++ L⟩ rs)) : EK P x [] e ⟨sl, H ++ L⟩ := by
  rw [EK_nil]
  refine hq e _ ?_
  have : match resL P ⟨sl, H ++ L⟩ rs with | some (p, vs) => p ∧ ∃ v' H', Drop H.length (retV vs) (H ++ L) v' H' ∧ R v' H' | none => False := by
    cases hr : resL P ⟨sl, H ++ L⟩ rs with
    | none => rw [hr] at h; exact h.elim
    | some q =>
      obtain ⟨p, vs⟩ := q
      rw [hr] at h
      exact ⟨h.1, v', H ++ [b], Drop.one H.length (retV vs) v' H L k b rfl hb hv' h.2.1 (fun b hb c hc => hw b hb c hc) (fun c hc => (lts_iff _ _).1 hbw c hc), h.2.2⟩
  rcases he with rfl | rfl <;> exact this
end Go.Sx
namespace Go.Sx
open Go.RowKit
section
variable {α : Type} (a b : α) (p : Prop) [Decidable p]
@[go_sem] theorem ite_fand : (if False ∧ p then a else b) = b := by simp
@[go_sem] theorem ite_andf : (if p ∧ False then a else b) = b := by simp
@[go_sem] theorem ite_tand : (if True ∧ p then a else b) = if p then a else b := by simp
@[go_sem] theorem ite_andt : (if p ∧ True then a else b) = if p then a else b := by simp
end
@[go_sem] theorem retV_nil : retV [] = .t [] := rfl
/-- The slots behind a state of which one new row (block h + k) is kept as block h. -/
def renV (h k : Nat) (x y : V) : Prop := y = .any ∨ (x = y ∧ x ≠ .any ∧ V.lt h y) ∨ ∃ o l c, x = .s (h + k) o l c ∧ y = .s h o l c
def renL (h k : Nat) : List V → List V → Prop
  | [], [] => True
  | x :: xs, y :: ys => renV h k x y ∧ renL h k xs ys
  | _, _ => False
section
variable (h k : Nat) (x : V) (z : Value) (i o l : Nat) (c : Cap) (xs ys : List V)
@[go_sem] theorem renL_nil : renL h k [] [] = True := rfl
@[go_sem] theorem renL_cons (y : V) : renL h k (x :: xs) (y :: ys) = (renV h k x y ∧ renL h k xs ys) := rfl
@[go_sem] theorem renV_any : renV h k x .any = True := eq_true (.inl rfl)
@[go_sem] theorem renV_int (kd : IntKind) (n m : Int) : renV h k (.v (.int kd n)) (.v (.int kd m)) = (n = m) := by
  unfold renV
  apply propext
  constructor
  · rintro (h | ⟨h, _⟩ | ⟨_, _, _, h, _⟩)
    · cases h
    · cases h; rfl
    · cases h
  · rintro rfl; exact .inr (.inl ⟨rfl, (fun h => by cases h), rfl⟩)
theorem renV_lt (h1 : V.lt h x) (h2 : x ≠ .any) : renV h k x x := .inr (.inl ⟨rfl, h2, h1⟩)
@[go_sem] theorem renV_s : renV h k (.s (h + k) o l c) (.s h o l c) = True := eq_true (.inr (.inr ⟨_, _, _, rfl, rfl⟩))
@[go_sem] theorem renV_p (hi : i < h) : renV h k (.p i o) (.p i o) = True := eq_true (renV_lt h k _ hi (fun h => by cases h))
@[go_sem] theorem renV_ss (hi : i < h) : renV h k (.s i o l c) (.s i o l c) = True := eq_true (renV_lt h k _ hi (fun h => by cases h))
@[go_sem] theorem renV_b (b : Bool) : renV h k (.v (.bool b)) (.v (.bool b)) = True := eq_true (renV_lt h k _ rfl (fun h => by cases h))
@[go_sem] theorem renV_n (a b : Nat) : renV h k (.v (.slice none a b)) (.v (.slice none a b)) = True := eq_true (renV_lt h k _ rfl (fun h => by cases h))
theorem renL_get : ∀ {xs ys : List V}, renL h k xs ys → xs.length = ys.length ∧ ∀ (t : Nat) (y : V), ys[t]? = some y → ∃ x, xs[t]? = some x ∧ renV h k x y
  | [], [], _ => ⟨rfl, fun t y hy => by simp at hy⟩
  | x :: xs, y :: ys, hr => by
    have ih := renL_get hr.2
    refine ⟨by simp [ih.1], fun t v hv => ?_⟩
    cases t with
    | zero => simp at hv; subst hv; exact ⟨x, rfl, hr.1⟩
    | succ t => simpa using ih.2 t v (by simpa using hv)
  | [], _ :: _, hr => hr.elim
  | _ :: _, [], hr => hr.elim
end
theorem Weak.only {n0 : Nat} {sl sl' : List V} {H L : List Blk} (k : Nat) {b : Blk} (hb : L[k]? = some b) (hn : n0 ≤ H.length) (hbw : lts H.length b.cells) (hw : HWf H) (hs : renL H.length k sl sl') : Weak n0 ⟨sl, H ++ L⟩ ⟨sl', H ++ [b]⟩ := by
  intro E σ a w hE hr
  obtain ⟨hlen, hget⟩ := renL_get _ _ hs
  have hbk : (H ++ L)[H.length + k]? = some b := by rw [get_at]; exact hb
  have hρ : ∀ i, i < H.length → (if i = H.length then H.length + k else i) = i := fun i hi => if_neg (by omega)
  have hkL : k < L.length := (List.getElem?_eq_some_iff.1 hb).1
  refine Weak.ren (fun i => if i = H.length then H.length + k else i) (fun i hi => hρ i (by omega)) (by simp; omega) ?_ ?_ hlen ?_ E σ a w hE hr
  · intro i j hi hj e
    simp only [List.length_append, List.length_singleton] at hi hj
    by_cases e1 : i = H.length
    · by_cases e2 : j = H.length
      · omega
      · simp only [e1, e2, if_true, if_false] at e; omega
    · by_cases e2 : j = H.length
      · simp only [e1, e2, if_true, if_false] at e; omega
      · simp only [e1, e2, if_false] at e; exact e
  · intro i x hx
    rcases Nat.lt_or_ge i H.length with hi | hi
    · rw [List.getElem?_append_left hi] at hx
      have hlt := hw x (List.mem_of_getElem? hx)
      refine ⟨x, by simp only [hρ i hi]; rw [List.getElem?_append_left hi]; exact hx, rfl, rfl, fun σ => concs_congr (fun j hj => by simp only [hρ j hj]) _ ((lts_iff _ _).2 hlt), fun c hc => ⟨V.lt_mono (by simp) _ (hlt c hc), (hr.heap.wf i x (by rw [List.getElem?_append_left hi]; exact hx) c hc).2⟩⟩
    · have e : i = H.length := by
        rcases Nat.lt_or_ge H.length i with h2 | h2
        · rw [List.getElem?_eq_none (by simp; omega)] at hx; cases hx
        · omega
      subst e
      rw [List.getElem?_append_right (Nat.le_refl _), Nat.sub_self] at hx
      simp at hx; subst hx
      refine ⟨b, by simp only [if_true]; exact hbk, rfl, rfl, fun σ => concs_congr (fun j hj => by simp only [hρ j hj]) _ hbw, fun c hc => ⟨V.lt_mono (by simp) _ ((lts_iff _ _).1 hbw c hc), (hr.heap.wf _ b hbk c hc).2⟩⟩
  · intro t v hv
    obtain ⟨x, hx, hrv⟩ := hget t v hv
    rcases hrv with e | ⟨rfl, hne, hlt⟩ | ⟨o, l, c, rfl, rfl⟩
    · exact .inl e
    · exact .inr ⟨x, hx, hne, V.lt_mono (by simp) _ hlt, fun σ => conc_congr (fun j hj => by simp only [hρ j hj]) _ hlt⟩
    · exact .inr ⟨_, hx, (fun h => by cases h), by simp [V.lt], fun σ => by simp [conc]⟩
end Go.Sx
namespace Go.Sx
open Go.RowKit
/-- A call that hands back a new row of its own, and writes nothing that was there. -/
theorem cal_ownsRow {P : Program} {f : FuncId} {args : List V} {H : List Blk} {e : TypeId} {z n : Nat} {cells : List V} (hcall : callable P f = true) (hlen : cells.length = n * z) (hn : 0 < n)
    (hwf : ∀ c ∈ cells, V.lt H.length c ∧ c.one = true)
    (h : ∀ (σ : Nat → Loc) (w : World), HRel σ H w → lts H.length args → Calls P f (concs σ args).toArray w fun x w' => ∃ v, x = .returned v ∧ w'.ownsRow w.heap.size e z v n (concs σ cells) ∧ Below w.heap.size w w') :
    Cal P f args H fun u H' => u = .s H.length 0 n (.u 0) ∧ H' = H ++ [⟨cells, e, .own z⟩] :=
  ⟨hcall, fun σ w hw hl => (h σ w hw hl).mono fun x w' ⟨v, hx, hrow, hb⟩ => by
    obtain ⟨_, ⟨_, h0⟩ | ⟨g, cap, cur, rfl, hg, hc, h1, h2, h3, h4⟩⟩ := hrow
    · omega
    subst hx
    have ha : ∀ i, i < H.length → upσ σ H.length ⟨g, 0, cap⟩ i = σ i := fun i hi => upσ_lt _ _ _ _ hi
    have hcc : concs (upσ σ H.length ⟨g, 0, cap⟩) cells = concs σ cells := concs_congr ha _ ((lts_iff _ _).2 fun c hc => (hwf c hc).1)
    have hold : Holds (upσ σ H.length ⟨g, 0, cap⟩) w' H.length ⟨cells, e, .own z⟩ := by
      show (_ ∧ _)
      rw [upσ_same]
      exact ⟨rfl, cur, n, hc, hlen, h1, h3, h2, by rw [hcc]; exact h4⟩
    refine ⟨.s H.length 0 n (.u 0), H ++ [⟨cells, e, .own z⟩], upσ σ H.length ⟨g, 0, cap⟩, ⟨rfl, rfl⟩, ?_, by simp [V.lt], by simp, ha, ?_, ?_, ?_⟩
    · simp [conc, Cap.val, upσ_same]
    · exact hw.push ha hb.size hb.block (by rw [upσ_same]; exact hg) hold fun c hc => ⟨V.lt_mono (Nat.le_succ _) _ (hwf c hc).1, (hwf c hc).2⟩
    · exact ⟨hb.os, hb.tape, hb.output, hb.size, fun k hk _ => hb.block k hk⟩
    · intro i b hi hm
      rcases get_app_cases hi with ⟨hlt, hi⟩ | ⟨rfl, rfl⟩
      · rw [ha i hlt]; exact .inr ⟨i, b, hi, hm, rfl⟩
      · left; rw [upσ_same]; exact hg⟩
/-- A call that hands back a value without place, and writes nothing that was there. -/
theorem cal_below {P : Program} {f : FuncId} {args : List V} {H : List Blk} {r : V} (hcall : callable P f = true) (hr : r.lt H.length)
    (h : ∀ (σ : Nat → Loc) (w : World), HRel σ H w → lts H.length args → Calls P f (concs σ args).toArray w fun x w' => x = .returned (conc σ r) ∧ Below w.heap.size w w') :
    Cal P f args H fun u H' => u = r ∧ H' = H :=
  ⟨hcall, fun σ w hw hl => (h σ w hw hl).mono fun x w' ⟨hx, hb⟩ =>
    ⟨r, H, σ, ⟨rfl, rfl⟩, hx, hr, Nat.le_refl _, fun _ _ => rfl, hw.keep (fun _ _ => rfl) hb.size (fun i b hi hlv => hb.block _ (hw.blk_lt hi hlv)), ⟨hb.os, hb.tape, hb.output, hb.size, fun k hk _ => hb.block k hk⟩, fun i b hi hm => .inr ⟨i, b, hi, hm, rfl⟩⟩⟩
end Go.Sx
namespace Go.Sx
open Go.RowKit Go.ChangeShapes Go.WideShapes
/-- A slice's reach is known. -/
def KC (v : V) : Prop := ∀ i off len c, v = .s i off len c → ∃ k, c = .k k ∧ len ≤ k
theorem KC_k {i off len c : Nat} (h : len ≤ c) : KC (.s i off len (.k c)) := fun _ _ _ _ e => by cases e; exact ⟨_, rfl, h⟩
theorem KC_n {a b : Nat} : KC (.v (.slice none a b)) := fun _ _ _ _ e => by cases e
theorem SlV.kc {H : List Blk} {v : V} {cs : List (List V)} (h : SlV H v cs) : KC v := by
  rcases h with ⟨rfl, _⟩ | ⟨i, cap, rest, b, rfl, hle, _⟩
  · exact KC_n
  · exact KC_k hle
/-- An argument's slice is no longer than the row's weights allow. -/
theorem sized_slv {H : Type} {enc : TypeId × Value → H} {P : Program} {w : World} {base : Nat} {spare : Nat → Bool} {held : Bool} {t e : TypeId} {v : Value} {d : DataW H} {ps : List MemPlace} {ts : List TypeId} {ds : List (DataW H)} {j : Nat}
    (hsz : (DataW.weightsEach P ts ds).all (· ≤ reachBytes) = true) (ht : ts[j]? = some t) (hd : ds[j]? = some d) (hu : P.underlying t = some (.slice e)) {B : Nat} (hB : P.bytesOf e = B)
    (h : DataW.Trod enc P w base spare held t v d ps) {x : V} {cs : List (List V)} {σ : Nat → Loc} {Hp : List Blk} (hx : conc σ x = v) (hs : SlV Hp x cs) : cs.length * B ≤ 140737488351232 := by
  rcases hs with ⟨rfl, rfl⟩ | ⟨i, cap, rest, b, rfl, hle, _⟩
  · simp
  · obtain ⟨fuel, hf⟩ := h
    subst hx
    rcases DataW.trod_slice hu hf with ⟨h1, _⟩ | ⟨a, l, c, elems, rs, m, _, h1, h2, _, _, _, hel, _⟩
    · simp [Value.cells, conc] at h1
    · simp [Value.cells, conc] at h1
      obtain ⟨hx, _⟩ := Prod.mk.inj h2
      subst hx
      have z := sized_slice hsz ht hd hu
      rw [hB] at z
      simp only [List.length_map] at z
      have hl : cs.length = elems.length := by rw [hel]; exact h1.2.1
      rw [hl]
      exact Nat.le_trans (Nat.mul_le_mul_right _ (Nat.le_add_right _ _)) z
end Go.Sx
namespace Go.Sx
open Go.RowKit
/-- The slots behind a state of which the new rows ks (blocks h + k) are kept as blocks h, h + 1 .. -/
def renW (h : Nat) (ks : List Nat) (x y : V) : Prop := y = .any ∨ (x = y ∧ x ≠ .any ∧ V.lt h y) ∨ (∃ j k o l c c', ks[j]? = some k ∧ x = .s (h + k) o l c ∧ y = .s (h + j) o l c' ∧ ∀ m, c.val m = c'.val m) ∨ (∃ j k o, ks[j]? = some k ∧ x = .p (h + k) o ∧ y = .p (h + j) o)
def renM (h : Nat) (ks : List Nat) : List V → List V → Prop
  | [], [] => True
  | x :: xs, y :: ys => renW h ks x y ∧ renM h ks xs ys
  | _, _ => False
section
variable (h j k : Nat) (ks : List Nat) (x : V) (z : Value) (i o l : Nat) (c : Cap) (xs ys : List V)
@[go_sem] theorem renM_nil : renM h ks [] [] = True := rfl
@[go_sem] theorem renM_cons (y : V) : renM h ks (x :: xs) (y :: ys) = (renW h ks x y ∧ renM h ks xs ys) := rfl
@[go_sem] theorem renW_any : renW h ks x .any = True := eq_true (.inl rfl)
theorem renW_lt (h1 : V.lt h x) (h2 : x ≠ .any) : renW h ks x x := .inr (.inl ⟨rfl, h2, h1⟩)
@[go_sem] theorem renW_int (kd : IntKind) (n m : Int) : renW h ks (.v (.int kd n)) (.v (.int kd m)) = (n = m) := by
  unfold renW
  apply propext
  constructor
  · rintro (h | ⟨h, _⟩ | ⟨_, _, _, _, _, _, _, h, _⟩ | ⟨_, _, _, _, h, _⟩)
    · cases h
    · cases h; rfl
    · cases h
    · cases h
  · rintro rfl; exact .inr (.inl ⟨rfl, (fun h => by cases h), rfl⟩)
@[go_sem] theorem renW_s (hk : ks[j]? = some k) : renW h ks (.s (h + k) o l c) (.s (h + j) o l c) = True := eq_true (.inr (.inr (.inl ⟨_, _, _, _, _, _, hk, rfl, rfl, fun _ => rfl⟩)))
@[go_sem] theorem renW_s0 (hk : ks[j]? = some 0) : renW h ks (.s h o l c) (.s (h + j) o l c) = True := eq_true (.inr (.inr (.inl ⟨_, _, _, _, _, _, hk, rfl, rfl, fun _ => rfl⟩)))
@[go_sem] theorem renW_s1 (hk : ks[0]? = some k) : renW h ks (.s (h + k) o l c) (.s h o l c) = True := eq_true (.inr (.inr (.inl ⟨_, _, _, _, _, _, hk, rfl, rfl, fun _ => rfl⟩)))
@[go_sem] theorem renW_s2 (hk : ks[0]? = some 0) : renW h ks (.s h o l c) (.s h o l c) = True := eq_true (.inr (.inr (.inl ⟨_, _, _, _, _, _, hk, rfl, rfl, fun _ => rfl⟩)))
@[go_sem] theorem renW_ui (a : Nat) (hk : ks[j]? = some k) : renW h ks (.s (h + k) o l (.u a)) (.s (h + j) o l (.i a)) = True := eq_true (.inr (.inr (.inl ⟨_, _, _, _, _, _, hk, rfl, rfl, fun _ => rfl⟩)))
@[go_sem] theorem renW_ui0 (a : Nat) (hk : ks[j]? = some 0) : renW h ks (.s h o l (.u a)) (.s (h + j) o l (.i a)) = True := eq_true (.inr (.inr (.inl ⟨_, _, _, _, _, _, hk, rfl, rfl, fun _ => rfl⟩)))
@[go_sem] theorem renW_ui1 (a : Nat) (hk : ks[0]? = some k) : renW h ks (.s (h + k) o l (.u a)) (.s h o l (.i a)) = True := eq_true (.inr (.inr (.inl ⟨_, _, _, _, _, _, hk, rfl, rfl, fun _ => rfl⟩)))
@[go_sem] theorem renW_ui2 (a : Nat) (hk : ks[0]? = some 0) : renW h ks (.s h o l (.u a)) (.s h o l (.i a)) = True := eq_true (.inr (.inr (.inl ⟨_, _, _, _, _, _, hk, rfl, rfl, fun _ => rfl⟩)))
@[go_sem] theorem renW_p (hk : ks[j]? = some k) : renW h ks (.p (h + k) o) (.p (h + j) o) = True := eq_true (.inr (.inr (.inr ⟨_, _, _, hk, rfl, rfl⟩)))
@[go_sem] theorem renW_p0 (hk : ks[j]? = some 0) : renW h ks (.p h o) (.p (h + j) o) = True := eq_true (.inr (.inr (.inr ⟨_, _, _, hk, rfl, rfl⟩)))
@[go_sem] theorem renW_p1 (hk : ks[0]? = some k) : renW h ks (.p (h + k) o) (.p h o) = True := eq_true (.inr (.inr (.inr ⟨_, _, _, hk, rfl, rfl⟩)))
@[go_sem] theorem renW_p2 (hk : ks[0]? = some 0) : renW h ks (.p h o) (.p h o) = True := eq_true (.inr (.inr (.inr ⟨_, _, _, hk, rfl, rfl⟩)))
@[go_sem] theorem renW_pp (hi : i < h) : renW h ks (.p i o) (.p i o) = True := eq_true (renW_lt h ks _ hi (fun h => by cases h))
@[go_sem] theorem renW_ss (hi : i < h) : renW h ks (.s i o l c) (.s i o l c) = True := eq_true (renW_lt h ks _ hi (fun h => by cases h))
@[go_sem] theorem renW_b (b : Bool) : renW h ks (.v (.bool b)) (.v (.bool b)) = True := eq_true (renW_lt h ks _ rfl (fun h => by cases h))
@[go_sem] theorem renW_n (a b : Nat) : renW h ks (.v (.slice none a b)) (.v (.slice none a b)) = True := eq_true (renW_lt h ks _ rfl (fun h => by cases h))
theorem renM_get : ∀ {xs ys : List V}, renM h ks xs ys → xs.length = ys.length ∧ ∀ (t : Nat) (y : V), ys[t]? = some y → ∃ x, xs[t]? = some x ∧ renW h ks x y
  | [], [], _ => ⟨rfl, fun t y hy => by simp at hy⟩
  | x :: xs, y :: ys, hr => by
    have ih := renM_get hr.2
    refine ⟨by simp [ih.1], fun t v hv => ?_⟩
    cases t with
    | zero => simp at hv; subst hv; exact ⟨x, rfl, hr.1⟩
    | succ t => simpa using ih.2 t v (by simpa using hv)
  | [], _ :: _, hr => hr.elim
  | _ :: _, [], hr => hr.elim
end
/-- Some of the new rows are kept, and numbered anew. -/
theorem Weak.pick {n0 : Nat} {sl sl' : List V} {H L bs : List Blk} (ks : List Nat) (hb : (ks.map fun k => L[k]?) = bs.map some) (hnd : ks.Nodup) (hn : n0 ≤ H.length) (hbw : ∀ b ∈ bs, lts H.length b.cells) (hw : HWf H) (hs : renM H.length ks sl sl') : Weak n0 ⟨sl, H ++ L⟩ ⟨sl', H ++ bs⟩ := by
  intro E σ a w hE hr
  obtain ⟨hlen, hget⟩ := renM_get _ _ hs
  have hkl : ks.length = bs.length := by have := congrArg List.length hb; simpa using this
  have hkb : ∀ j k : Nat, ks[j]? = some k → (H ++ L)[H.length + k]? = bs[j]? := by
    intro j k hj
    have h1 := congrArg (fun l => l[j]?) hb
    simp only [List.getElem?_map, hj, Option.map_some] at h1
    rw [get_at]
    cases e : bs[j]? with
    | none => rw [e] at h1; simp at h1
    | some b => rw [e] at h1; simp at h1; exact h1
  let ρ : Nat → Nat := fun i => if i < H.length then i else match ks[i - H.length]? with | some k => H.length + k | none => i
  have hρ : ∀ i, i < H.length → ρ i = i := fun i hi => if_pos hi
  have hρ2 : ∀ j k : Nat, ks[j]? = some k → ρ (H.length + j) = H.length + k := fun j k hj => by
    show (if _ then _ else _) = _
    rw [if_neg (by omega), Nat.add_sub_cancel_left, hj]
  refine Weak.ren ρ (fun i hi => hρ i (by omega)) (by simp; omega) ?_ ?_ hlen ?_ E σ a w hE hr
  · intro i j hi hj e
    simp only [List.length_append] at hi hj
    by_cases e1 : i < H.length
    · rw [hρ i e1] at e
      by_cases e2 : j < H.length
      · rw [hρ j e2] at e; exact e
      · obtain ⟨m, rfl⟩ : ∃ m, j = H.length + m := ⟨j - H.length, by omega⟩
        have hm : ks[m]? = some ks[m] := List.getElem?_eq_getElem (by omega)
        rw [hρ2 m _ hm] at e; omega
    · obtain ⟨n, rfl⟩ : ∃ n, i = H.length + n := ⟨i - H.length, by omega⟩
      have hn2 : ks[n]? = some ks[n] := List.getElem?_eq_getElem (by omega)
      rw [hρ2 n _ hn2] at e
      by_cases e2 : j < H.length
      · rw [hρ j e2] at e; omega
      · obtain ⟨m, rfl⟩ : ∃ m, j = H.length + m := ⟨j - H.length, by omega⟩
        have hm : ks[m]? = some ks[m] := List.getElem?_eq_getElem (by omega)
        rw [hρ2 m _ hm] at e
        have : ks[n] = ks[m] := by omega
        have := (List.getElem_inj hnd).1 this
        omega
  · intro i x hx
    rcases Nat.lt_or_ge i H.length with hi | hi
    · rw [List.getElem?_append_left hi] at hx
      have hlt := hw x (List.mem_of_getElem? hx)
      refine ⟨x, by rw [hρ i hi, List.getElem?_append_left hi]; exact hx, rfl, rfl, fun σ => concs_congr (fun j hj => by simp only [hρ j hj]) _ ((lts_iff _ _).2 hlt), fun c hc => ⟨V.lt_mono (by simp) _ (hlt c hc), (hr.heap.wf i x (by rw [List.getElem?_append_left hi]; exact hx) c hc).2⟩⟩
    · obtain ⟨m, rfl⟩ : ∃ m, i = H.length + m := ⟨i - H.length, by omega⟩
      rw [get_at] at hx
      have hml : m < bs.length := (List.getElem?_eq_some_iff.1 hx).1
      have hm : ks[m]? = some ks[m] := List.getElem?_eq_getElem (by omega)
      have hbk : (H ++ L)[H.length + ks[m]]? = some x := by rw [hkb m _ hm]; exact hx
      have hbx := hbw x (List.mem_of_getElem? hx)
      refine ⟨x, by rw [hρ2 m _ hm]; exact hbk, rfl, rfl, fun σ => concs_congr (fun j hj => by simp only [hρ j hj]) _ hbx, fun c hc => ⟨V.lt_mono (by simp) _ ((lts_iff _ _).1 hbx c hc), (hr.heap.wf _ x hbk c hc).2⟩⟩
  · intro t v hv
    obtain ⟨x, hx, hrv⟩ := hget t v hv
    rcases hrv with e | ⟨rfl, hne, hlt⟩ | ⟨j, k, o, l, c, c', hj, rfl, rfl, hcc⟩ | ⟨j, k, o, hj, rfl, rfl⟩
    · exact .inl e
    · exact .inr ⟨x, hx, hne, V.lt_mono (by simp) _ hlt, fun σ => conc_congr (fun j hj => by simp only [hρ j hj]) _ hlt⟩
    · have hjl : j < bs.length := by rw [← hkl]; exact (List.getElem?_eq_some_iff.1 hj).1
      exact .inr ⟨_, hx, (fun h => by cases h), by simp [V.lt]; omega, fun σ => by simp only [conc, hρ2 j k hj, hcc]⟩
    · have hjl : j < bs.length := by rw [← hkl]; exact (List.getElem?_eq_some_iff.1 hj).1
      exact .inr ⟨_, hx, (fun h => by cases h), by simp [V.lt]; omega, fun σ => by simp only [conc, hρ2 j k hj]⟩
section
variable (P : Program) (t : TypeId)
/-- A slice of nil. -/
def snP : Option (Option Int) → Option (Option Int) → Option (Option Int) → Option (Bool × Nat × Nat) → Option (Prop × V)
  | some l, some h, some none, some (false, _, _) => some (l.getD 0 = 0 ∧ h.getD 0 = 0, .v (.slice none 0 0))
  | _, _, _, _ => none
@[go_sem] theorem snP_some (l h : Option Int) (a b : Nat) : snP (some l) (some h) (some none) (some (false, a, b)) = some (l.getD 0 = 0 ∧ h.getD 0 = 0, .v (.slice none 0 0)) := rfl
@[go_sem] theorem sliceV_n (R : Nat → Int → Prop) (lo hi mx : Option V) : sliceV P R t (.v (.slice none 0 0)) lo hi mx = snP (bnd lo) (bnd hi) (bnd mx) (rowo P t) := by
  unfold sliceV snP
  rcases bnd lo with _ | l <;> rcases bnd hi with _ | h <;> rcases bnd mx with _ | (_ | m) <;> rcases rowo P t with _ | ⟨_ | _, _, _⟩ <;> rfl
end
attribute [go_sem] LK_appMake
@[go_sem] theorem capOk_v (hp : List Blk) (z : Value) : capOk hp (.v z) = True := rfl
@[go_sem] theorem zerosL_zero (zs : List V) : zerosL zs 0 = [] := rfl
@[go_sem] theorem zerosL_one (zs : List V) : zerosL zs 1 = zs := by simp [zerosL]
@[go_sem] theorem wr_11 (x y : V) : wr [x] 0 [y] = [y] := rfl
@[go_sem] theorem seg_11 (x : V) : seg [x] 0 1 = [x] := rfl
section
variable {P : Program} {x : Cx} {k : List Kt} {ops : Array Oper} {pre : List (List Nat)} {s : St}
/-- The tail of a region with loose operations. -/
def TK (P : Program) (n : Nat) (x : Cx) (k : List Kt) (ops : Array Oper) (pre : List (List Nat)) (steps : List Step) (L : List Ls) (s : St) : Prop := Wt P n ops pre steps L (den P x.n0 k x.Q .normal) s
theorem WK_loose {l : List Oper} (id : Nat) (pre : List (List Nat)) (N : Nat) (Z0 Z1 : List (Nat × Tmp)) (steps : List Step) (hc : chkL ⟨l⟩ pre N Z0 Z1 steps = true)
    (h : MK P x (.fn (fun s' => ∃ vs : List V, vs.length = Z1.length ∧ TK P x.n0 x k ⟨l⟩ pre steps (ls0 Z0 s' ++ opnd Z1 vs) (anyL (ls0 Z0 s' ++ opnd Z1 vs) s')) :: k) ⟨l⟩ [] 0 (l.take N) pre [] s) : WK P x k (.region id ⟨l⟩ true) s := by
  refine .inr (.inl ⟨pre, N, Z0, Z1, steps, hc, ?_⟩)
  exact Mz_Wm P (l.take N) 0 pre [] [] s (fun j => by simp [pr]) Lg.nil rfl h
/-- The loose operations may lead to all that is there. -/
theorem WK_looseN {l : List Oper} {sl : List V} {hp : List Blk} (id : Nat) (pre : List (List Nat)) (N : Nat) (Z0 Z1 : List (Nat × Tmp)) (steps : List Step) (hc : chkL ⟨l⟩ pre N Z0 Z1 steps = true)
    (h : MK P x (.fn (fun s' => ∃ vs : List V, vs.length = Z1.length ∧ TK P hp.length x k ⟨l⟩ pre steps (ls0 Z0 s' ++ opnd Z1 vs) (anyL (ls0 Z0 s' ++ opnd Z1 vs) s')) :: k) ⟨l⟩ [] 0 (l.take N) pre [] ⟨sl, hp⟩) : WK P x k (.region id ⟨l⟩ true) ⟨sl, hp⟩ := by
  refine .inr (.inr ⟨pre, N, Z0, Z1, steps, hc, ?_⟩)
  exact Mz_Wm P (l.take N) 0 pre [] [] ⟨sl, hp⟩ (fun j => by simp [pr]) Lg.nil rfl h
theorem Wo_LK {o : Oper} {F : St → Prop} (hg : o.guard = none) (h : LK P x (.fn F :: k) ops [o] s) : Wo P x.n0 o F s := by
  unfold LK at h
  simp only [Wl, guardV_none hg, true_implies] at h
  exact h.1
theorem TK_nil {n : Nat} {L : List Ls} (hev : ∀ z ∈ L, evZ P n ops z (fillZ pre L z s)) (h : EK P x k .normal (clo L s)) : TK P n x k ops pre [] L s := ⟨hev, h⟩
theorem TK_step {n : Nat} {l : List Oper} {L : List Ls} {j : Nat} {cl : List Nat} {opn : List (Nat × Tmp)} {r : List Step} {o : Oper} (ho : l[j]? = some o) (hg : o.guard = none) (hev : ∀ z ∈ L, evZ P n ⟨l⟩ z (fillZ pre L z s))
    (h : LK P ⟨n, x.Q⟩ (.fn (fun s' => ∃ vs : List V, vs.length = opn.length ∧ TK P n x k ⟨l⟩ pre r (stay cl L ++ opnd opn vs) (anyL (stay cl L ++ opnd opn vs) s')) :: []) ⟨l⟩ [o] (clo (L.filter fun z => cl.contains z.z) s)) : TK P n x k ⟨l⟩ pre ((j, cl, opn) :: r) L s :=
  ⟨hev, o, by simpa using ho, hg, Wo_LK (x := ⟨n, x.Q⟩) hg h⟩
end
section
variable {P : Program} {ops : Array Oper} {pre : List (List Nat)} {s : St}
theorem evZ_mk0 {n : Nat} {l : List Oper} {z : Nat} {d : Tmp} {v : V} {o : Oper} (ho : l[z]? = some o) (hg : o.guard = none) (hd : o.dst = some d) (hlt : V.lt n v) (hne : v ≠ .any) (hlen : d < s.slots.length) (h : LK P ⟨n, fun _ _ => True⟩ (.fn (fun s' => s' = s.put (some d) v) :: []) ⟨l⟩ [o] s) : evZ P n ⟨l⟩ ⟨z, d, v⟩ s :=
  ⟨hlt, hne, hlen, o, by simpa using ho, hg, hd, Wo_LK (x := ⟨n, fun _ _ => True⟩) hg h⟩
end
section
variable {P : Program} {n : Nat} {x : Cx} {k : List Kt} {ops : Array Oper} {pre : List (List Nat)} {s : St}
theorem exV0 {G : List V → Prop} (h : G []) : ∃ vs : List V, vs.length = 0 ∧ G vs := ⟨[], rfl, h⟩
theorem exV1 {G : List V → Prop} {v : V} (h : G [v]) : ∃ vs : List V, vs.length = 1 ∧ G vs := ⟨[v], rfl, h⟩
theorem exV2 {G : List V → Prop} {v w : V} (h : G [v, w]) : ∃ vs : List V, vs.length = 2 ∧ G vs := ⟨[v, w], rfl, h⟩
theorem exV3 {G : List V → Prop} {v0 v1 v2 : V} (h : G [v0, v1, v2]) : ∃ vs : List V, vs.length = 3 ∧ G vs := ⟨[v0, v1, v2], rfl, h⟩
theorem exV4 {G : List V → Prop} {v0 v1 v2 v3 : V} (h : G [v0, v1, v2, v3]) : ∃ vs : List V, vs.length = 4 ∧ G vs := ⟨[v0, v1, v2, v3], rfl, h⟩
theorem exV5 {G : List V → Prop} {v0 v1 v2 v3 v4 : V} (h : G [v0, v1, v2, v3, v4]) : ∃ vs : List V, vs.length = 5 ∧ G vs := ⟨[v0, v1, v2, v3, v4], rfl, h⟩
theorem exV6 {G : List V → Prop} {v0 v1 v2 v3 v4 v5 : V} (h : G [v0, v1, v2, v3, v4, v5]) : ∃ vs : List V, vs.length = 6 ∧ G vs := ⟨[v0, v1, v2, v3, v4, v5], rfl, h⟩
theorem exV7 {G : List V → Prop} {v0 v1 v2 v3 v4 v5 v6 : V} (h : G [v0, v1, v2, v3, v4, v5, v6]) : ∃ vs : List V, vs.length = 7 ∧ G vs := ⟨[v0, v1, v2, v3, v4, v5, v6], rfl, h⟩
theorem exV8 {G : List V → Prop} {v0 v1 v2 v3 v4 v5 v6 v7 : V} (h : G [v0, v1, v2, v3, v4, v5, v6, v7]) : ∃ vs : List V, vs.length = 8 ∧ G vs := ⟨[v0, v1, v2, v3, v4, v5, v6, v7], rfl, h⟩
theorem exV9 {G : List V → Prop} {v0 v1 v2 v3 v4 v5 v6 v7 v8 : V} (h : G [v0, v1, v2, v3, v4, v5, v6, v7, v8]) : ∃ vs : List V, vs.length = 9 ∧ G vs := ⟨[v0, v1, v2, v3, v4, v5, v6, v7, v8], rfl, h⟩
theorem isTKs {q : Step} {r : List Step} {L : List Ls} (h : TK P n x k ops pre (q :: r) L s) : TK P n x k ops pre (q :: r) L s := h
theorem isTKn {L : List Ls} (h : TK P n x k ops pre [] L s) : TK P n x k ops pre [] L s := h
theorem evNil {n0 : Nat} {f : Ls → St} : ∀ z ∈ ([] : List Ls), evZ P n0 ops z (f z) := fun z hz => by cases hz
theorem evCons {n0 : Nat} {f : Ls → St} {y : Ls} {l : List Ls} (h : evZ P n0 ops y (f y)) (h2 : ∀ z ∈ l, evZ P n0 ops z (f z)) : ∀ z ∈ y :: l, evZ P n0 ops z (f z) := fun z hz => by
  rcases List.mem_cons.1 hz with rfl | hz
  · exact h
  · exact h2 z hz
end
attribute [go_sem] EK_fn
end Go.Sx
/- Blocks that are kept, and numbered anew, where cells of memory lead to rows. -/
namespace Go.Sx
open Go.RowKit
/-- What a value is behind a renaming of new blocks: block h + k comes to be block h + j, where ks has some k at j. -/
def renS (h : Nat) (ks : List (Option Nat)) (x y : V) : Prop := (x = y ∧ x ≠ .any ∧ V.lt h y) ∨ (∃ j k o l c c', ks[j]? = some (some k) ∧ x = .s (h + k) o l c ∧ y = .s (h + j) o l c' ∧ ∀ m, Cap.val c m = Cap.val c' m) ∨ (∃ j k o, ks[j]? = some (some k) ∧ x = .p (h + k) o ∧ y = .p (h + j) o)
def renSM (h : Nat) (ks : List (Option Nat)) : List V → List V → Prop
  | [], [] => True
  | x :: xs, y :: ys => renS h ks x y ∧ renSM h ks xs ys
  | _, _ => False
def renC (h : Nat) (ks : List (Option Nat)) (x y : V) : Prop := y = .any ∨ renS h ks x y
def renCM (h : Nat) (ks : List (Option Nat)) : List V → List V → Prop
  | [], [] => True
  | x :: xs, y :: ys => renC h ks x y ∧ renCM h ks xs ys
  | _, _ => False
def celM (h : Nat) (ks : List (Option Nat)) (xs ys : List V) : Prop := (xs = ys ∧ lts h ys) ∨ renSM h ks xs ys
def blkP (h : Nat) (ks : List (Option Nat)) (b : Blk) : Option Blk → Prop
  | some b' => b'.elem = b.elem ∧ b'.k = b.k ∧ celM h ks b'.cells b.cells
  | none => False
def blkM (h : Nat) (ks : List (Option Nat)) (L : List Blk) : List (Option Nat) → List Blk → Prop
  | [], [] => True
  | none :: r, b :: bs => b = deadB ∧ blkM h ks L r bs
  | some k :: r, b :: bs => blkP h ks b L[k]? ∧ blkM h ks L r bs
  | _, _ => False
section
variable (h j k : Nat) (ks : List (Option Nat)) (x y : V) (z : Value) (i o l : Nat) (c c' : Cap) (xs ys : List V) (L : List Blk)
theorem renSM_nil : renSM h ks [] [] = True := rfl
theorem renSM_cons : renSM h ks (x :: xs) (y :: ys) = (renS h ks x y ∧ renSM h ks xs ys) := rfl
theorem renCM_nil : renCM h ks [] [] = True := rfl
theorem renCM_cons : renCM h ks (x :: xs) (y :: ys) = (renC h ks x y ∧ renCM h ks xs ys) := rfl
theorem renC_any : renC h ks x .any = True := eq_true (.inl rfl)
theorem renC_S (hy : y ≠ .any) : renC h ks x y = renS h ks x y := propext ⟨fun h => h.resolve_left hy, .inr⟩
theorem renS_lt (h1 : V.lt h x) (h2 : x ≠ .any) : renS h ks x x := .inl ⟨rfl, h2, h1⟩
theorem renS_int (kd : IntKind) (n m : Int) : renS h ks (.v (.int kd n)) (.v (.int kd m)) = (n = m) := by
  unfold renS
  apply propext
  constructor
  · rintro (⟨h, _⟩ | ⟨_, _, _, _, _, _, _, h, _⟩ | ⟨_, _, _, _, h, _⟩)
    · cases h; rfl
    · cases h
    · cases h
  · rintro rfl; exact .inl ⟨rfl, (fun h => by cases h), rfl⟩
theorem renS_b (b : Bool) : renS h ks (.v (.bool b)) (.v (.bool b)) = True := eq_true (renS_lt h ks _ rfl (fun h => by cases h))
theorem renS_n (a b : Nat) : renS h ks (.v (.slice none a b)) (.v (.slice none a b)) = True := eq_true (renS_lt h ks _ rfl (fun h => by cases h))
theorem renS_pp (hi : i < h) : renS h ks (.p i o) (.p i o) = True := eq_true (renS_lt h ks _ hi (fun h => by cases h))
theorem renS_ss (hi : i < h) : renS h ks (.s i o l c) (.s i o l c) = True := eq_true (renS_lt h ks _ hi (fun h => by cases h))
/-- The capacities are alike. -/
def capE (c c' : Cap) : Prop := ∀ m, Cap.val c m = Cap.val c' m
theorem capE_r : capE c c = True := eq_true fun _ => rfl
theorem capE_uw : capE (.u 0) .w = True := eq_true fun _ => rfl
theorem capE_wu : capE .w (.u 0) = True := eq_true fun _ => rfl
theorem capE_ui (n : Nat) : capE (.u n) (.i n) = True := eq_true fun _ => rfl
theorem capE_iu (n : Nat) : capE (.i n) (.u n) = True := eq_true fun _ => rfl
theorem capE_iw : capE (.i 0) .w = True := eq_true fun _ => rfl
theorem renS_s (hk : ks[j]? = some (some k)) (hc : capE c c') : renS h ks (.s (h + k) o l c) (.s (h + j) o l c') = True := eq_true (.inr (.inl ⟨_, _, _, _, _, _, hk, rfl, rfl, hc⟩))
theorem renS_s0 (hk : ks[j]? = some (some 0)) (hc : capE c c') : renS h ks (.s h o l c) (.s (h + j) o l c') = True := eq_true (.inr (.inl ⟨_, _, _, _, _, _, hk, rfl, rfl, hc⟩))
theorem renS_s1 (hk : ks[0]? = some (some k)) (hc : capE c c') : renS h ks (.s (h + k) o l c) (.s h o l c') = True := eq_true (.inr (.inl ⟨_, _, _, _, _, _, hk, rfl, rfl, hc⟩))
theorem renS_s2 (hk : ks[0]? = some (some 0)) (hc : capE c c') : renS h ks (.s h o l c) (.s h o l c') = True := eq_true (.inr (.inl ⟨_, _, _, _, _, _, hk, rfl, rfl, hc⟩))
theorem renS_p (hk : ks[j]? = some (some k)) : renS h ks (.p (h + k) o) (.p (h + j) o) = True := eq_true (.inr (.inr ⟨_, _, _, hk, rfl, rfl⟩))
theorem renS_p0 (hk : ks[j]? = some (some 0)) : renS h ks (.p h o) (.p (h + j) o) = True := eq_true (.inr (.inr ⟨_, _, _, hk, rfl, rfl⟩))
theorem renS_p1 (hk : ks[0]? = some (some k)) : renS h ks (.p (h + k) o) (.p h o) = True := eq_true (.inr (.inr ⟨_, _, _, hk, rfl, rfl⟩))
theorem renS_p2 (hk : ks[0]? = some (some 0)) : renS h ks (.p h o) (.p h o) = True := eq_true (.inr (.inr ⟨_, _, _, hk, rfl, rfl⟩))
theorem blkM_nil (L : List Blk) : blkM h ks L [] [] = True := rfl
theorem blkM_none (r : List (Option Nat)) (b : Blk) (bs : List Blk) : blkM h ks L (none :: r) (b :: bs) = (b = deadB ∧ blkM h ks L r bs) := rfl
theorem blkM_some (r : List (Option Nat)) (b : Blk) (bs : List Blk) : blkM h ks L (some k :: r) (b :: bs) = (blkP h ks b L[k]? ∧ blkM h ks L r bs) := rfl
theorem blkP_some (b b' : Blk) : blkP h ks b (some b') = (b'.elem = b.elem ∧ b'.k = b.k ∧ celM h ks b'.cells b.cells) := rfl
theorem celM_same (hl : lts h xs) : celM h ks xs xs = True := eq_true (.inl ⟨rfl, hl⟩)
theorem celM_1 (h1 : renS h ks x y) : celM h ks [x] [y] = True := eq_true (.inr ⟨h1, trivial⟩)
theorem celM_2 (x' y' : V) (h1 : renS h ks x y) (h2 : renS h ks x' y') : celM h ks [x, x'] [y, y'] = True := eq_true (.inr ⟨h1, h2, trivial⟩)
theorem celM_3 (x' y' x'' y'' : V) (h1 : renS h ks x y) (h2 : renS h ks x' y') (h3 : renS h ks x'' y'') : celM h ks [x, x', x''] [y, y', y''] = True := eq_true (.inr ⟨h1, h2, h3, trivial⟩)
end
attribute [go_sem] renSM_nil renSM_cons renCM_nil renCM_cons renC_any renS_int renS_b renS_n renS_pp renS_ss capE_r capE_uw capE_wu capE_ui capE_iu capE_iw renS_s renS_s0 renS_s1 renS_s2 renS_p renS_p0 renS_p1 renS_p2 blkM_nil blkM_none blkM_some blkP_some celM_same celM_1 celM_2 celM_3 renC_S
end Go.Sx
/- Blocks that are kept, where older blocks lead to them. -/
namespace Go.Sx
open Go.RowKit
end Go.Sx
/- A call that hands its own row back, grown: in place or moved. -/
namespace Go.Sx
open Go.RowKit
section
variable {P : Program}
theorem exV10 {G : List V → Prop} {v0 v1 v2 v3 v4 v5 v6 v7 v8 v9 : V} (h : G [v0, v1, v2, v3, v4, v5, v6, v7, v8, v9]) : ∃ vs : List V, vs.length = 10 ∧ G vs := ⟨[v0, v1, v2, v3, v4, v5, v6, v7, v8, v9], rfl, h⟩
theorem exV11 {G : List V → Prop} {v0 v1 v2 v3 v4 v5 v6 v7 v8 v9 v10 : V} (h : G [v0, v1, v2, v3, v4, v5, v6, v7, v8, v9, v10]) : ∃ vs : List V, vs.length = 11 ∧ G vs := ⟨[v0, v1, v2, v3, v4, v5, v6, v7, v8, v9, v10], rfl, h⟩
theorem exV12 {G : List V → Prop} {v0 v1 v2 v3 v4 v5 v6 v7 v8 v9 v10 v11 : V} (h : G [v0, v1, v2, v3, v4, v5, v6, v7, v8, v9, v10, v11]) : ∃ vs : List V, vs.length = 12 ∧ G vs := ⟨[v0, v1, v2, v3, v4, v5, v6, v7, v8, v9, v10, v11], rfl, h⟩
theorem exV13 {G : List V → Prop} {v0 v1 v2 v3 v4 v5 v6 v7 v8 v9 v10 v11 v12 : V} (h : G [v0, v1, v2, v3, v4, v5, v6, v7, v8, v9, v10, v11, v12]) : ∃ vs : List V, vs.length = 13 ∧ G vs := ⟨[v0, v1, v2, v3, v4, v5, v6, v7, v8, v9, v10, v11, v12], rfl, h⟩
theorem exV14 {G : List V → Prop} {v0 v1 v2 v3 v4 v5 v6 v7 v8 v9 v10 v11 v12 v13 : V} (h : G [v0, v1, v2, v3, v4, v5, v6, v7, v8, v9, v10, v11, v12, v13]) : ∃ vs : List V, vs.length = 14 ∧ G vs := ⟨[v0, v1, v2, v3, v4, v5, v6, v7, v8, v9, v10, v11, v12, v13], rfl, h⟩
end
end Go.Sx
/- Frames of dots: how many dots there are, and what exclusive or makes of them. Plain law: no program. -/
namespace Go.Sx
end Go.Sx
/- Layers as rows of numbers. Plain law: no program. -/
namespace Go.Sx
open Go.RowKit
section
variable (f g f' g' : Nat → Int) (c ns : List V)
theorem wr_at {a ns : List V} {n m : Nat} (h : n = a.length + m) : wr (a ++ c) n ns = a ++ wr c m ns := by
  subst h; unfold wr
  rw [List.take_length_add_append, Nat.add_assoc, List.drop_length_add_append]; simp [List.append_assoc]
end
/-- The numbers of a layer are within their kinds. -/
structure LyW (a : Nat → Int) : Prop where
  ink : R16 a
  cov : R16 fun j => a (12 + j)
  e : -128 ≤ a 24 ∧ a 24 ≤ 127
  s : -128 ≤ a 25 ∧ a 25 ≤ 127
  sh : -128 ≤ a 26 ∧ a 26 ≤ 127
theorem LyW.of {a : Nat → Int} (h : (∀ j, j < 24 → (Lit.int .u16 (a j)).wf = true) ∧ (Lit.int .i8 (a 24)).wf = true ∧ (Lit.int .i8 (a 25)).wf = true ∧ (Lit.int .i8 (a 26)).wf = true) : LyW a :=
  ⟨r16_of_wf' fun j hj => h.1 j (by omega), r16_of_wf' fun j hj => h.1 (12 + j) (by omega), bounds_i8 h.2.1, bounds_i8 h.2.2.1, bounds_i8 h.2.2.2⟩
end Go.Sx
/- Rows of cells of mixed kinds. Plain law: no program. -/
namespace Go.Sx
open Go.RowKit
/-- A row of n cells: cell j has the kind kd j. -/
def rowK (kd : Nat → IntKind) (n : Nat) (f : Nat → Int) : List V := (List.range n).map fun j => .v (.int (kd j) (f j))
section
variable (kd : Nat → IntKind) (n : Nat) (f : Nat → Int)
@[go_sem] theorem rowK_length : (rowK kd n f).length = n := by simp [rowK]
theorem rowK_get {j : Nat} (hj : j < n) : (rowK kd n f)[j]? = some (.v (.int (kd j) (f j))) := by
  unfold rowK; rw [List.getElem?_map, List.getElem?_range hj]; rfl
theorem rowK_mem {x : V} (h : x ∈ rowK kd n f) : ∃ j, j < n ∧ x = .v (.int (kd j) (f j)) := by
  unfold rowK at h
  obtain ⟨j, hj, rfl⟩ := List.mem_map.1 h
  exact ⟨j, List.mem_range.1 hj, rfl⟩
@[go_sem] theorem rowK_lts (m : Nat) : lts m (rowK kd n f) = True := by
  apply eq_true; rw [lts_iff]; intro x hx; obtain ⟨j, _, rfl⟩ := rowK_mem kd n f hx; rfl
@[go_sem] theorem rowK_one : (rowK kd n f).all V.one = true := by
  rw [List.all_eq_true]; intro x hx; obtain ⟨j, _, rfl⟩ := rowK_mem kd n f hx; rfl
@[go_sem] theorem rowK_norefs (m : Nat) : norefs m (rowK kd n f) = true := by
  rw [norefs_all, List.all_eq_true]; intro x hx; obtain ⟨j, _, rfl⟩ := rowK_mem kd n f hx; rfl
end
theorem At.celK {H : List Blk} {i off : Nat} {kd : Nat → IntKind} {n : Nat} {f : Nat → Int} {b : Blk} (h : At H i off (rowK kd n f) b) {j : Nat} (hj : j < n) : Go.Sx.cel b.cells (off + j) = .v (.int (kd j) (f j)) :=
  (cel_of_seg h.sg (by rw [rowK_length]; exact hj)).trans (by rw [nth_eq, rowK_get kd n f hj]; rfl)
section
variable (P : Program) (x : Cx) (k : List Kt) (ops : Array Oper) (rest : List Oper) (i : Nat) (r : List Oper) (q : List (List Nat)) (p : List Nat) (d : Option Tmp) (L : List (Nat × LE)) (ty : TypeId) (pos : String) (af : Array Edge) (s : St)
@[go_sem high] theorem HK_true (op : Op) : HK P x k ops r d op ty pos af s (some true) = LK P x k ops ({ dst := d, op := op, type := ty, pos := pos, after := af, guard := none } :: r) s := by simp [HK_some]
@[go_sem high] theorem HK_false (op : Op) : HK P x k ops r d op ty pos af s (some false) = LK P x k ops r ⟨putS s.slots d (.t []), s.heap⟩ := by simp [HK_some]
@[go_sem high] theorem MG_true (op : Op) : MG P x k ops rest i r q p d L ty pos af op s (some true) = MK P x k ops rest i ({ dst := d, op := op, type := ty, pos := pos, after := af, guard := none } :: r) (p :: q) L s := by simp [MG_some]
@[go_sem high] theorem MG_false (op : Op) : MG P x k ops rest i r q p d L ty pos af op s (some false) = MK P x k ops rest (i + 1) r q L ⟨putS s.slots d (.t []), s.heap⟩ := by simp [MG_some]
end
theorem iteMax (a b : Int) : (if a < b then b else a) = max a b := by
  by_cases h : a < b
  · rw [if_pos h]; omega
  · rw [if_neg h]; omega
end Go.Sx
/- Lists of which a part is turned round. Plain law: no program. -/
namespace Go.Sx
section
variable {α : Type} [Inhabited α]
end
end Go.Sx
/- Orders of numbers. Plain law: no program. -/
namespace Go.Sx
/-- A list has each number less than n once. -/
def OrdP (o : List Int) (n : Nat) : Prop := o.length = n ∧ (∀ k ∈ o, 0 ≤ k ∧ k < (n : Int)) ∧ o.Nodup
instance (o : List Int) (n : Nat) : Decidable (OrdP o n) := by unfold OrdP; infer_instance
theorem OrdP.len {o : List Int} {n : Nat} (h : OrdP o n) : o.length = n := h.1
end Go.Sx
/- Keys of a track as rows of three numbers. Plain law: no program. -/
namespace Go.Sx
open Go.RowKit
/-- A key's cells: its tick and its place. -/
def encK (a : Nat → Int) : List V := [.v (.int .i16 (a 0)), .v (.int .i8 (a 1)), .v (.int .i8 (a 2))]
theorem encK_len (a : Nat → Int) : (encK a).length = 3 := rfl
theorem flat_encK : Flat encK 3 := ⟨encK_len, fun a v hv => by
  simp [encK] at hv; rcases hv with rfl | rfl | rfl <;> exact ⟨_, rfl, rfl⟩⟩
/-- A key of three numbers. -/
def keyF (t x y : Int) : Nat → Int := fun j => if j = 0 then t else if j = 1 then x else y
theorem keyF_0 (t x y : Int) : keyF t x y 0 = t := rfl
theorem keyF_1 (t x y : Int) : keyF t x y 1 = x := rfl
theorem keyF_2 (t x y : Int) : keyF t x y 2 = y := rfl
def kK (c : Nat) : IntKind := if c % 3 = 0 then .i16 else .i8
/-- The numbers of a key are within their kinds. -/
structure KyW (a : Nat → Int) : Prop where
  t : -32768 ≤ a 0 ∧ a 0 ≤ 32767
  x : -128 ≤ a 1 ∧ a 1 ≤ 127
  y : -128 ≤ a 2 ∧ a 2 ≤ 127
theorem KyW.of {a : Nat → Int} (h : (Lit.int .i16 (a 0)).wf = true ∧ (Lit.int .i8 (a 1)).wf = true ∧ (Lit.int .i8 (a 2)).wf = true) : KyW a := ⟨bounds_i16 h.1, bounds_i8 h.2.1, bounds_i8 h.2.2⟩
section
variable (c : List V) (a : Nat → Int) (x : Int)
theorem celK0 : cel (encK a) 0 = .v (.int .i16 (a 0)) := rfl
theorem celK1 : cel (encK a) 1 = .v (.int .i8 (a 1)) := rfl
theorem celK2 : cel (encK a) 2 = .v (.int .i8 (a 2)) := rfl
@[go_sem] theorem wr_encK (x y z : V) : wr [x, y, z] 0 (encK a) = encK a := rfl
@[go_sem] theorem encK_lts (m : Nat) : lts m (encK a) = True := eq_true ⟨rfl, rfl, rfl, trivial⟩
@[go_sem] theorem encK_norefs (m : Nat) : norefs m (encK a) = true := rfl
@[go_sem] theorem encK_one : (encK a).all V.one = true := rfl
end
end Go.Sx
/- Ways between keys. Plain law: no program. -/
namespace Go.Sx
/-- The share of a way behind a step. -/
def shareR (e s t : Int) : Int :=
  if e = 0 then (s * 1000).tdiv t
  else if e = 1 then (s * s * 1000).tdiv (t * t)
  else if e = 2 then 1000 - ((t - s) * (t - s) * 1000).tdiv (t * t)
  else if 2 * s < t then (2 * s * s * 1000).tdiv (t * t)
  else 1000 - (2 * (t - s) * (t - s) * 1000).tdiv (t * t)
theorem tdiv_share {x y : Int} (hx : 0 ≤ x) (hy : 0 < y) (h : x ≤ y) : 0 ≤ (x * 1000).tdiv y ∧ (x * 1000).tdiv y ≤ 1000 := by
  rw [Int.tdiv_eq_ediv_of_nonneg (by omega)]
  refine ⟨Int.ediv_nonneg (by omega) (by omega), ?_⟩
  have : x * 1000 / y ≤ y * 1000 / y := Int.ediv_le_ediv hy (by omega)
  rwa [Int.mul_ediv_cancel_left _ (by omega)] at this
theorem sq_le {a b : Int} (h0 : 0 ≤ a) (h : a ≤ b) : 0 ≤ a * a ∧ a * a ≤ b * b := ⟨Int.mul_nonneg h0 h0, Int.mul_le_mul h h h0 (by omega)⟩
theorem sq2 {a b : Int} (h0 : 0 ≤ a) (h : 2 * a ≤ b) : 0 ≤ 2 * a * a ∧ 2 * a * a ≤ b * b := by
  have h1 := sq_le (a := 2 * a) (by omega) h
  have h2 : 2 * a * (2 * a) = 2 * (2 * a * a) := by
    rw [Int.mul_comm (2 * a) (2 * a), Int.mul_assoc 2 a (2 * a), Int.mul_comm a (2 * a)]
  have h3 : 0 ≤ 2 * a * a := Int.mul_nonneg (by omega) h0
  omega
theorem shareR_range {e s t : Int} (h0 : 0 ≤ s) (h : s ≤ t) (ht : 1 ≤ t) : 0 ≤ shareR e s t ∧ shareR e s t ≤ 1000 := by
  have hp : 0 < t * t := Int.mul_pos (by omega) (by omega)
  unfold shareR
  split
  · exact tdiv_share h0 (by omega) h
  split
  · have := sq_le h0 h
    exact tdiv_share this.1 hp this.2
  split
  · have := sq_le (a := t - s) (b := t) (by omega) (by omega)
    have := tdiv_share this.1 hp this.2
    omega
  split
  · have := sq2 (a := s) (b := t) h0 (by omega)
    exact tdiv_share this.1 hp this.2
  · have := sq2 (a := t - s) (b := t) (by omega) (by omega)
    have := tdiv_share this.1 hp this.2
    omega
theorem shareR_zero {e t : Int} (ht : 1 ≤ t) : shareR e 0 t = 0 := by
  unfold shareR
  have hp : 0 < t * t := Int.mul_pos (by omega) (by omega)
  split
  · simp
  split
  · simp
  split
  · rw [Int.sub_zero, Int.mul_tdiv_cancel_left _ (by omega)]; rfl
  rw [if_pos (by omega)]; simp
/-- The number at a share between two ones. -/
def betweenR (a b s : Int) : Int := if b < a then a - ((a - b) * s + 500).tdiv 1000 else a + ((b - a) * s + 500).tdiv 1000
theorem mul_share {d s : Int} (hd : 0 ≤ d) (h0 : 0 ≤ s) (h : s ≤ 1000) : 0 ≤ d * s ∧ d * s ≤ d * 1000 := ⟨Int.mul_nonneg hd h0, Int.mul_le_mul_of_nonneg_left h hd⟩
theorem betweenR_range {a b s : Int} (h0 : 0 ≤ s) (h : s ≤ 1000) {lo hi : Int} (ha : lo ≤ a ∧ a ≤ hi) (hb : lo ≤ b ∧ b ≤ hi) : lo ≤ betweenR a b s ∧ betweenR a b s ≤ hi := by
  unfold betweenR
  split
  · have h1 := mul_share (d := a - b) (by omega) h0 h
    rw [Int.tdiv_eq_ediv_of_nonneg (by omega)]
    omega
  · have h1 := mul_share (d := b - a) (by omega) h0 h
    rw [Int.tdiv_eq_ediv_of_nonneg (by omega)]
    omega
theorem betweenR_zero (a b : Int) : betweenR a b 0 = a := by unfold betweenR; simp
/-- How many keys of a track stand at a tick or ahead of it, one behind the other. -/
def kn (l : List (Nat → Int)) (tick : Int) : Nat := (l.takeWhile fun a => decide (a 0 ≤ tick)).length
theorem kn_le (l : List (Nat → Int)) (tick : Int) : kn l tick ≤ l.length := (List.takeWhile_sublist _).length_le
theorem kn_at {l : List (Nat → Int)} {tick : Int} : ∀ {n : Nat} (_ : n ≤ l.length) (_ : ∀ j (hj : j < l.length), j < n → l[j] 0 ≤ tick) (_ : ∀ h : n < l.length, tick < l[n] 0), kn l tick = n := by
  induction l with
  | nil => intro n h _ _; simp at h; subst h; rfl
  | cons a l ih =>
    intro n hn h1 h2
    cases n with
    | zero =>
      have := h2 (by simp)
      simp at this
      unfold kn; rw [List.takeWhile_cons_of_neg (by simp; omega)]; rfl
    | succ n =>
      have h0 := h1 0 (by simp) (by omega)
      simp at h0
      have := ih (n := n) (by simpa using hn) (fun j hj hjn => by have := h1 (j + 1) (by simpa using hj) (by omega); simpa using this) (fun h => by have := h2 (by simpa using h); simpa using this)
      unfold kn at this ⊢
      rw [List.takeWhile_cons_of_pos (by simpa using h0), List.length_cons, this]
def kAt (l : List (Nat → Int)) (i : Nat) : Nat → Int := l[i]?.getD fun _ => 0
theorem kAt_at {l : List (Nat → Int)} {i : Nat} (h : i < l.length) : kAt l i = l[i] := by unfold kAt; rw [List.getElem?_eq_getElem h]; rfl
/-- A track's place at a tick, one of its two numbers (c = 1 or 2). -/
def placeR (l : List (Nat → Int)) (e tick : Int) (c : Nat) : Int :=
  if kn l tick = 0 ∨ kn l tick = l.length then kAt l (kn l tick - 1) c
  else betweenR (kAt l (kn l tick - 1) c) (kAt l (kn l tick) c) (shareR e (tick - kAt l (kn l tick - 1) 0) (kAt l (kn l tick) 0 - kAt l (kn l tick - 1) 0))
end Go.Sx
/- Speeds of a track. Plain law: no program. -/
namespace Go.Sx
theorem kn_spec (l : List (Nat → Int)) (tick : Int) : (∀ j (hj : j < l.length), j < kn l tick → l[j] 0 ≤ tick) ∧ ∀ h : kn l tick < l.length, tick < l[kn l tick] 0 := by
  induction l with
  | nil => exact ⟨fun j hj => absurd hj (by simp), fun h => absurd h (by simp [kn])⟩
  | cons a l ih =>
    by_cases h0 : a 0 ≤ tick
    · have e : kn (a :: l) tick = kn l tick + 1 := by unfold kn; rw [List.takeWhile_cons_of_pos (by simpa using h0)]; rfl
      rw [e]
      refine ⟨fun j hj hj2 => ?_, fun h => ?_⟩
      · cases j with
        | zero => exact h0
        | succ j => simpa using ih.1 j (by simpa using hj) (by omega)
      · have := ih.2 (by simpa using h)
        simpa using this
    · have e : kn (a :: l) tick = 0 := by unfold kn; rw [List.takeWhile_cons_of_neg (by simpa using h0)]; rfl
      rw [e]
      exact ⟨fun j _ hj => absurd hj (by omega), fun _ => by simpa using h0⟩
def sizeR (n : Int) : Int := max n (-n)
/-- The speed at the tick j + 1 behind a track's first one. -/
def spd (l : List (Nat → Int)) (e : Int) (j : Nat) : Int := sizeR (placeR l e (kAt l 0 0 + 1 + j) 1 - placeR l e (kAt l 0 0 + j) 1) + sizeR (placeR l e (kAt l 0 0 + 1 + j) 2 - placeR l e (kAt l 0 0 + j) 2)
def spL (l : List (Nat → Int)) (e : Int) (n : Nat) : List Int := (List.range n).map (spd l e)
theorem spL_len (l : List (Nat → Int)) (e : Int) (n : Nat) : (spL l e n).length = n := by simp [spL]
theorem spL_succ (l : List (Nat → Int)) (e : Int) (n : Nat) : spL l e (n + 1) = spL l e n ++ [spd l e n] := by simp [spL, List.range_succ]
end Go.Sx
/- Rows with one thing left out. -/
namespace Go.Sx
section
variable {α : Type} {enc : α → List V} {z : Nat}
theorem flat_at (hz : ∀ x, (enc x).length = z) {l : List α} {j n : Nat} (h : j + n ≤ l.length) : seg (l.flatMap enc) (j * z) (n * z) = ((l.drop j).take n).flatMap enc := by
  have e : l = l.take j ++ l.drop j := (List.take_append_drop j l).symm
  have e2 : l.drop j = (l.drop j).take n ++ (l.drop j).drop n := (List.take_append_drop n _).symm
  have l1 : ((l.take j).flatMap enc).length = j * z := by rw [flat_len enc z hz, List.length_take, Nat.min_eq_left (by omega)]
  have l2 : (((l.drop j).take n).flatMap enc).length = n * z := by rw [flat_len enc z hz, List.length_take, List.length_drop, Nat.min_eq_left (by omega)]
  conv => lhs; rw [e, List.flatMap_append, e2, List.flatMap_append]
  unfold seg
  rw [← l1, List.drop_left, ← l2, List.take_left]
theorem wr_mid {a c ns : List V} {o : Nat} (h : o = a.length) (h2 : ns.length ≤ c.length) : wr (a ++ c) o ns = a ++ (ns ++ c.drop ns.length) := by
  subst h
  unfold wr
  rw [List.take_left, List.append_assoc]
  congr 2
  rw [List.drop_append, List.drop_eq_nil_of_le (by omega), List.nil_append]
  congr 1; omega
theorem erase_eq {l : List α} {j : Nat} : l.eraseIdx j = l.take j ++ l.drop (j + 1) := List.eraseIdx_eq_take_drop_succ ..
theorem erase_len {l : List α} {j : Nat} (hj : j < l.length) : (l.eraseIdx j).length = l.length - 1 := List.length_eraseIdx_of_lt hj
/-- What lies behind a thing is moved over it. -/
theorem del_wr (hz : ∀ x, (enc x).length = z) {l : List α} {j n : Nat} (hj : j + 1 < l.length) (hn : n = l.length - (j + 1)) :
    ∃ x, wr (l.flatMap enc) (j * z) (seg (l.flatMap enc) ((j + 1) * z) (n * z)) = (l.eraseIdx j ++ [x]).flatMap enc := by
  subst hn
  have hc : l.drop (j + 1) ≠ [] := by intro e; have := congrArg List.length e; rw [List.length_drop] at this; simp at this; omega
  refine ⟨(l.drop (j + 1)).getLast hc, ?_⟩
  rw [flat_at hz (by omega), List.take_of_length_le (by rw [List.length_drop]; omega)]
  have e : l.flatMap enc = (l.take j).flatMap enc ++ (enc l[j] ++ (l.drop (j + 1)).flatMap enc) := by
    have e1 : l = l.take j ++ (l[j] :: l.drop (j + 1)) := by rw [← List.drop_eq_getElem_cons (by omega), List.take_append_drop]
    conv => lhs; rw [e1]
    rw [List.flatMap_append, List.flatMap_cons]
  have l1 : ((l.take j).flatMap enc).length = j * z := by rw [flat_len enc z hz, List.length_take, Nat.min_eq_left (by omega)]
  have lc := flat_len enc z hz (l.drop (j + 1))
  conv => lhs; rw [e]
  rw [wr_mid l1.symm (by rw [List.length_append]; omega), erase_eq, List.flatMap_append, List.flatMap_append, List.append_assoc]
  congr 2
  have e2 : l.drop (j + 1) = (l.drop (j + 1)).dropLast ++ [(l.drop (j + 1)).getLast hc] := (List.dropLast_concat_getLast hc).symm
  have l3 : (enc l[j] ++ (l.drop (j + 1)).dropLast.flatMap enc).length = ((l.drop (j + 1)).flatMap enc).length := by
    rw [List.length_append, hz, flat_len enc z hz, List.length_dropLast, lc, List.length_drop]
    obtain ⟨m, hm⟩ : ∃ m, l.length - (j + 1) = m + 1 := ⟨l.length - (j + 1) - 1, by omega⟩
    rw [hm, Nat.add_sub_cancel, Nat.succ_mul, Nat.add_comm]
  have e3 : enc l[j] ++ (l.drop (j + 1)).flatMap enc = (enc l[j] ++ (l.drop (j + 1)).dropLast.flatMap enc) ++ [(l.drop (j + 1)).getLast hc].flatMap enc := by
    rw [List.append_assoc, ← List.flatMap_append, ← e2]
  rw [e3, ← l3, List.drop_left]
theorem clr_wr (hz : ∀ x, (enc x).length = z) {l : List α} {x y : α} {o : Nat} (h : o = l.length * z) : wr ((l ++ [x]).flatMap enc) o (enc y) = (l ++ [y]).flatMap enc := by
  rw [List.flatMap_append, wr_mid (by rw [h, flat_len enc z hz]) (by simp [hz]), List.flatMap_append]
  simp [hz]
theorem last_split {l : List α} (h : 0 < l.length) {j : Nat} (hj : j + 1 = l.length) : ∃ x, l = l.eraseIdx j ++ [x] := by
  refine ⟨l[j], ?_⟩
  rw [erase_eq, List.drop_eq_nil_of_le (by omega), List.append_nil]
  conv => lhs; rw [← List.take_append_drop j l, List.drop_eq_getElem_cons (by omega), List.drop_eq_nil_of_le (by omega)]
end
end Go.Sx
/- Rows of bytes. -/
namespace Go.Sx
open Go.RowKit
def u8C (x : Int) : List V := [.v (.int .u8 x)]
theorem flat_u8 : Flat u8C 1 := ⟨fun _ => rfl, fun x v hv => by simp [u8C] at hv; exact ⟨_, hv, rfl⟩⟩
theorem u8C_map (l : List Int) : l.flatMap u8C = l.map fun x => V.v (.int .u8 x) := by
  induction l with
  | nil => rfl
  | cons a l ih => rw [List.flatMap_cons, ih]; rfl
theorem At.u8 {H : List Blk} {i off : Nat} {l : List Int} {b : Blk} (h : At H i off (l.flatMap u8C) b) {j : Nat} (hj : j < l.length) : Go.Sx.cel b.cells (off + j) = .v (.int .u8 l[j]) := by
  have hs := h.sg
  have hl : (l.flatMap u8C).length = l.length := by rw [flat_u8.flen, Nat.mul_one]
  rw [hl] at hs
  rw [cel_of_seg hs hj, nth_eq, u8C_map, List.getElem?_map, List.getElem?_eq_getElem hj]; rfl
theorem bytes_of {cs : List (List V)} (h : ∀ c ∈ cs, okV [.i .u8] c = true ∧ wfL c) : ∃ l : List Int, cs = l.map u8C ∧ ∀ x ∈ l, (Lit.int .u8 x).wf = true :=
  list_of _ _ cs fun c hc => by
    obtain ⟨a, e⟩ := okV_one (h c hc).1
    subst e
    exact ⟨a, rfl, (h _ hc).2 _ (List.mem_singleton.2 rfl) _ _ rfl⟩
/-- Bytes. -/
def B8 (l : List Int) : Prop := ∀ x ∈ l, 0 ≤ x ∧ x ≤ 255
theorem B8.of {l : List Int} (h : ∀ x ∈ l, (Lit.int .u8 x).wf = true) : B8 l := fun x hx => by
  have := bounds_u8 (h x hx)
  omega
theorem HWf.re {H L L' : List Blk} (h : HWf (H ++ L)) (hl : L.length ≤ L'.length) (h' : ∀ b ∈ L', lts (H ++ L').length b.cells) : HWf (H ++ L') := by
  intro b hb c hc
  rcases List.mem_append.1 hb with hb | hb
  · exact V.lt_mono (by simp; omega) _ (h b (List.mem_append_left _ hb) c hc)
  · exact (lts_iff _ _).1 (h' b hb) c hc
theorem norefH_left {H L : List Blk} {n : Nat} (h : HWf (H ++ L)) (hn : (H ++ L).length ≤ n) : norefH n H := fun b hb => norefH_wf h hn b (List.mem_append_left _ hb)
/-- A call whose answer is told by what holds of it. -/
theorem call_ex {P : Program} {x : Cx} {k : List Kt} {ops : Array Oper} {r : List Oper} {d : Option Tmp} {sl : List V} {hp : List Blk} {args : List V} {n : Nat} {cs : List V} {R : V → List Blk → Prop} (hc : Cal P n (args ++ cs) hp R) (hs : args.all V.solid = true) (h : ∀ v H', R v H' → LK P x k ops r ⟨putS sl d v, H'⟩) : SK P x k ops r d args ⟨sl, hp⟩ (.f n cs) := ⟨hs, hc.mono h⟩
end Go.Sx
/- Rows of truths. -/
namespace Go.Sx
open Go.RowKit
end Go.Sx
/- Texts as lists of bytes. -/
namespace Go.Sx
open Go.RowKit
def bytI (z : ByteArray) : List Int := z.data.toList.map fun b => (b.toNat : Int)
theorem bytI_8 (z : ByteArray) : B8 (bytI z) := fun x hx => by
  unfold bytI at hx
  obtain ⟨b, _, rfl⟩ := List.mem_map.1 hx
  have := b.toNat_lt
  omega
theorem bstr_bytI (z : ByteArray) : bstr (bytI z) = z := by
  cases z with
  | mk d =>
    simp only [bstr, bytI, List.map_map]
    have : ((fun n : Int => UInt8.ofNat n.toNat) ∘ fun b : UInt8 => (b.toNat : Int)) = id := by
      funext b; simp
    rw [this]; simp
theorem bytI_bstr {l : List Int} (h : B8 l) : bytI (bstr l) = l := by
  simp only [bstr, bytI, List.map_map]
  conv => rhs; rw [← List.map_id l]
  apply List.map_congr_left
  intro x hx
  have := h x hx
  simp only [Function.comp, id]
  have : (UInt8.ofNat x.toNat).toNat = x.toNat := by simp; omega
  omega
theorem bstr_app (a b : List Int) : bstr a ++ bstr b = bstr (a ++ b) := by
  simp only [bstr, List.map_append]
  apply ByteArray.ext
  simp [ByteArray.data_append]
theorem bstr_size (l : List Int) : (bstr l).size = l.length := by simp [bstr, ByteArray.size]
theorem B8.app {a b : List Int} (h : B8 a) (h2 : B8 b) : B8 (a ++ b) := fun x hx => (List.mem_append.1 hx).elim (h x) (h2 x)
theorem bstr_inj {a b : List Int} (ha : B8 a) (hb : B8 b) (h : bstr a = bstr b) : a = b := by rw [← bytI_bstr ha, ← bytI_bstr hb, h]
/-- A text as a thing of one cell. -/
def sC (s : List Int) : List V := [.v (.string (bstr s))]
theorem flat_sC : Flat sC 1 := ⟨fun _ => rfl, fun x v hv => by simp [sC] at hv; exact ⟨_, hv, rfl⟩⟩
theorem sC_map (l : List (List Int)) : l.flatMap sC = l.map fun s => V.v (.string (bstr s)) := by
  induction l with
  | nil => rfl
  | cons a l ih => rw [List.flatMap_cons, ih]; rfl
theorem At.str {H : List Blk} {i off : Nat} {l : List (List Int)} {b : Blk} (h : At H i off (l.flatMap sC) b) {j : Nat} (hj : j < l.length) : Go.Sx.cel b.cells (off + j) = .v (.string (bstr l[j])) := by
  have hs := h.sg
  have hl : (l.flatMap sC).length = l.length := by rw [flat_sC.flen, Nat.mul_one]
  rw [hl] at hs
  rw [cel_of_seg hs hj, nth_eq, sC_map, List.getElem?_map, List.getElem?_eq_getElem hj]; rfl
end Go.Sx
/- Prim's tree is no heavier than any way through all places. -/
namespace Go.Sx
end Go.Sx
/- Package variables at a known place: what a row lists of them, and blocks for them. -/
namespace Go.Sx
open Go.RowKit Go.ChangeShapes Go.WideShapes

theorem open_pin {P : Program} {w : World} {name : String} {g : Nat} {vs : List Value} {cs : List V} (i : Nat) (hn : P.globalNamed name = some g) (hv : w.var? P name = some vs.toArray) (hc : cs = vs.map V.v) (h1 : ∀ v ∈ vs, v.oneCell' = true) (t : TypeId) (σ : Nat → Loc) (hσ : σ i = ⟨g, 0, 0⟩) :
    Holds σ w i ⟨cs, t, .pin g⟩ ∧ (BK.pin g).mut = false ∧ ∀ c ∈ cs, (∀ n, V.lt n c) ∧ c.one = true := by
  subst hc
  refine ⟨?_, rfl, fun c hc => ?_⟩
  · unfold Holds
    simp only [hσ]
    refine ⟨⟨trivial, trivial⟩, ?_⟩
    unfold World.var? at hv
    rw [hn] at hv
    simp only [Option.bind_some] at hv
    split at hv
    · rename_i cs2 t2 fr hg
      refine ⟨t2, fr, ?_⟩
      rw [hg, Option.some.inj hv]
      congr 2
      rw [concs_eq, List.map_map]
      simp [Function.comp_def, conc]
    · cases hv
  · obtain ⟨v, hv2, rfl⟩ := List.mem_map.1 hc
    exact ⟨fun _ => h1 v hv2, h1 v hv2⟩
theorem var_tab {P : Program} {W : World} {name : String} {d : DataW Unit} {k : IntKind} {zs : List Int} {g : Nat} {t e : TypeId} {n : Nat} (h : Lib.VarReads P W name d) (hd : d = Lib.tabData k zs)
    (hg : P.globalNamed name = some g) (hty : (P.globals[g]?).map (·.type) = some t) (ht : P.underlying t = some (.array n e)) (he : P.underlying e = some (.int k)) (hce : P.cellsOf e = 1) (hct : P.cellsOf t = n) :
    W.var? P name = some (zs.map fun z => Value.int k z).toArray := by
  subst hd
  obtain ⟨g', t', cs, fuel, p, h1, h2, h3, h4⟩ := h
  obtain rfl := Option.some.inj (hg.symm.trans h1)
  obtain rfl := Option.some.inj (hty.symm.trans h2)
  have := Lib.cells_of_tab ht he hce hct h4
  rw [h3, ← this]
theorem var_int {P : Program} {w : World} {name : String} {g : Nat} {t : TypeId} {zero : Array Value} {k : IntKind}
    (h : w.ShapedOpen P) (hn : P.globalNamed name = some g) (hg : g < P.globals.size)
    (h0 : ((begin P (fun _ _ => 0) default).world.heap[g]?).bind Obj.row? = some (zero, t)) (hz : zero.size = 1)
    (hb : P.buildable t = true) (hc : P.cellTypes P.depth t = some [t]) (hu : P.underlying t = some (.int k)) :
    ∃ m, w.var? P name = some [Value.int k m].toArray := by
  obtain ⟨m, hm⟩ := Go.Proofs.cell_of_shapedOpen_int h hg h0 hz hb hc hu
  obtain ⟨cs, hh, hs, hr⟩ := h.1 g zero t hg h0
  refine ⟨m, ?_⟩
  unfold World.var?
  rw [hn]
  unfold World.cell? at hm
  simp only [Option.bind_some]
  have hsz : cs.size = 1 := hs.trans hz
  rw [hh] at hm ⊢
  simp only [Option.isSome_none] at hm
  simp only
  congr 1
  apply Array.ext'
  have : cs.toList.length = 1 := by simpa using hsz
  match hl : cs.toList, this with
  | [a], _ =>
    have : cs = #[a] := by apply Array.ext'; simpa using hl
    subst this
    simpa using hm
end Go.Sx
namespace Go
variable {H : Type} {enc : TypeId × Value → H}
theorem returnsInHanded_of_change_both {a : Assume} {C : Checked} {os : Os} {f : FuncId} {fn : Func} {s : ChangeSpec} {conds : List PathCond} {apart fresh handsOn again : Bool} {X : World → Array Value → Prop}
    (hX : ∀ (w w' : World) (args : Array Value), w.heap = w'.heap → X w args → X w' args)
    (own : ownKnob C.prog.godebug = none) (started : os.Started) (noInit : C.prog.inits.idxOf? f = none) (hfn : C.prog.funcs[f]? = some fn)
    (witness : ∃ (w : World) (tape : Tape) (i : Input), w.os = os ∧ (w.forCall tape i).Shaped C.prog ∧ i.vars = [] ∧ Input.okWide C.prog (w.forCall tape i) .any w.heap.size f i ∧
      ((s.pre enc C.prog fn conds apart (w.forCall tape i).memory i.args ∧ X (w.forCall tape i).memory i.args) ∧ sizedMet enc C.prog fn (OpenSpec.ofChange s) apart (w.forCall tape i).memory i.args) ∧ a.holds C.prog (lone (Frame.enter C.prog f i.args .normal) [] (w.forCall tape i)))
    (contract : ∀ (W : World) (base : Nat) (args : Array Value) (ds gs : List (DataW H)) (before : List MemPlace),
      (∀ (j : Nat) t v, fn.params[j]? = some t → args[j]? = some v → Value.okWide C.prog W .any base t v) →
      DataW.Whole enc C.prog fn.params.toList s.vars apart W args.toList ds gs before →
      conds.all (PathCond.test C.prog ⟨fn.params.toList, ds, s.plain.varTypes C.prog, gs⟩) = true →
      (DataW.weightsEach C.prog (fn.params.toList ++ s.plain.varTypes C.prog) (ds ++ gs)).all (· ≤ reachBytes) = true → X W args → W.ShapedOpen C.prog →
      a.holds C.prog (lone (Frame.enter C.prog f args .normal) [] W) →
      Calls C.prog f args W fun e W' => ∃ v, e = .returned v ∧ s.post enc C.prog fn apart fresh handsOn again W args v W') :
    ReturnsInHanded a C os f .any (fun w args => (s.pre enc C.prog fn conds apart w args ∧ X w args) ∧ sizedMet enc C.prog fn (OpenSpec.ofChange s) apart w args) (s.post enc C.prog fn apart fresh handsOn again) := by
  refine returnsInHanded_of_calls own started noInit witness ?_
  intro w tape i _ hsh _ hok hpre hholds
  obtain ⟨_, _, _, fn', hfn', _, _, _, _, hval⟩ := hok
  have e : fn' = fn := Option.some.inj (hfn'.symm.trans hfn)
  subst e
  obtain ⟨⟨⟨ds, gs, before, hw, hc⟩, hx⟩, hz⟩ := hpre
  have hw' := DataW.Whole.of_heap (w' := w.forCall tape i) (by rfl) hw
  refine (contract (w.forCall tape i) w.heap.size i.args ds gs before hval hw' hc (hz.weights hw) (hX _ _ _ (by rfl) hx) hsh hholds).mono fun e W' ⟨v, he, hp⟩ => ?_
  subst he
  exact ChangeSpec.post_blind hp
end Go
